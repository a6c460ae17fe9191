/- Escheatref03: the Go functions of this package as the abstract evaluator computes them: printed by a program, checked by Lean. -/
import Derived.Test.YtbbkpmbepljhkaaEscS
import Derived.Test.YtbbkpmbepljhkaaChecked
import Derived.KernelRfl
import Derived.Test.YtbbkpmbepljhkaaGEscheatref01
namespace Go.Proofs.Ytbbkpmbepljhkaa
open Go Go.Esc
set_option maxRecDepth 100000
set_option linter.all false
def escheatref03_Right_o0 : List AOper := [{ dst := some 2, op := .mv (.v (.c (.b false))) }]
def escheatref03_Right_c0 : ACode := .ops escheatref03_Right_o0
def escheatref03_Right_o1 : List AOper := [{ dst := some 4, op := .mv (.t 0) }, { dst := some 5, op := .lenS (.t 4) }, { dst := some 6, op := .bin .lss (.t 5) (.v (.c (.i .i64 1))) }, { dst := some 7, op := .mv (.t 6) }, { dst := some 8, op := .mv (.t 0), guard := some (7, false) }, { dst := some 9, op := .lenS (.t 8), guard := some (7, false) }, { dst := some 10, op := .bin .gtr (.t 9) (.v (.c (.i .i64 24))), guard := some (7, false) }, { dst := some 11, op := .pick (.t 7) (.v (.c (.b true))) (.t 10) }, { dst := some 12, op := .mv (.t 11) }, { dst := some 13, op := .mv (.t 0), guard := some (12, false) }, { dst := some 14, op := .bin .eql (.t 13) (.v (.c (.s [46]))), guard := some (12, false) }, { dst := some 15, op := .pick (.t 12) (.v (.c (.b true))) (.t 14) }, { dst := some 16, op := .mv (.t 15) }, { dst := some 17, op := .mv (.t 0), guard := some (16, false) }, { dst := some 18, op := .bin .eql (.t 17) (.v (.c (.s [46, 46]))), guard := some (16, false) }, { dst := some 19, op := .pick (.t 16) (.v (.c (.b true))) (.t 18) }]
def escheatref03_Right_c1 : ACode := .ops escheatref03_Right_o1
def escheatref03_Right_o2 : List AOper := [{ dst := some 2, op := .mv (.v (.c (.b false))) }]
def escheatref03_Right_c2 : ACode := .ops escheatref03_Right_o2
def escheatref03_Right_c3 : ACode := .seq [2] escheatref03_Right_c2 .ret
def escheatref03_Right_c4 : ACode := .cond (.t 19) escheatref03_Right_c3 .skip
def escheatref03_Right_c5 : ACode := .seq [0, 19] escheatref03_Right_c1 escheatref03_Right_c4
def escheatref03_Right_o3 : List AOper := [{ dst := some 3, op := .mv (.v (.c (.i .i64 0))) }]
def escheatref03_Right_c6 : ACode := .ops escheatref03_Right_o3
def escheatref03_Right_o4 : List AOper := [{ dst := some 20, op := .mv (.t 3) }, { dst := some 21, op := .mv (.t 0) }, { dst := some 22, op := .lenS (.t 21) }, { dst := some 23, op := .bin .lss (.t 20) (.t 22) }]
def escheatref03_Right_c7 : ACode := .ops escheatref03_Right_o4
def escheatref03_Right_c8 : ACode := .cond (.t 23) .skip (.exit 0)
def escheatref03_Right_c9 : ACode := .seq [0, 3, 23] escheatref03_Right_c7 escheatref03_Right_c8
def escheatref03_Right_o5 : List AOper := [{ dst := some 26, op := .mv (.t 0) }, { dst := some 27, op := .mv (.t 3) }, { dst := some 28, op := .idxS (.t 26) (.t 27) }, { dst := some 29, op := .bin .eql (.t 28) (.v (.c (.i .u8 0))) }, { dst := some 30, op := .mv (.t 29) }, { dst := some 31, op := .mv (.t 0), guard := some (30, false) }, { dst := some 32, op := .mv (.t 3), guard := some (30, false) }, { dst := some 33, op := .idxS (.t 31) (.t 32), guard := some (30, false) }, { dst := some 34, op := .bin .eql (.t 33) (.v (.c (.i .u8 47))), guard := some (30, false) }, { dst := some 35, op := .pick (.t 30) (.v (.c (.b true))) (.t 34) }]
def escheatref03_Right_c10 : ACode := .ops escheatref03_Right_o5
def escheatref03_Right_o6 : List AOper := [{ dst := some 2, op := .mv (.v (.c (.b false))) }]
def escheatref03_Right_c11 : ACode := .ops escheatref03_Right_o6
def escheatref03_Right_c12 : ACode := .seq [2] escheatref03_Right_c11 .ret
def escheatref03_Right_c13 : ACode := .cond (.t 35) escheatref03_Right_c12 .skip
def escheatref03_Right_c14 : ACode := .seq [0, 3, 35] escheatref03_Right_c10 escheatref03_Right_c13
def escheatref03_Right_c15 : ACode := .block 1 escheatref03_Right_c14
def escheatref03_Right_o7 : List AOper := [{ dst := some 24, op := .mv (.t 3) }, { dst := some 25, op := .bin .add (.t 24) (.v (.c (.i .i64 1))) }, { dst := some 3, op := .mv (.t 25) }]
def escheatref03_Right_c16 : ACode := .ops escheatref03_Right_o7
def escheatref03_Right_c17 : ACode := .seq [0, 3] escheatref03_Right_c15 escheatref03_Right_c16
def escheatref03_Right_c18 : ACode := .seq [0, 3] escheatref03_Right_c9 escheatref03_Right_c17
def escheatref03_Right_c19 : ACode := .loop [0, 3] escheatref03_Right_c18
def escheatref03_Right_c20 : ACode := .block 0 escheatref03_Right_c19
def escheatref03_Right_c21 : ACode := .seq [0, 3] escheatref03_Right_c6 escheatref03_Right_c20
def escheatref03_Right_o8 : List AOper := [{ dst := some 2, op := .mv (.v (.c (.b true))) }]
def escheatref03_Right_c22 : ACode := .ops escheatref03_Right_o8
def escheatref03_Right_c23 : ACode := .seq [2] escheatref03_Right_c22 .ret
def escheatref03_Right_c24 : ACode := .seq [] escheatref03_Right_c21 escheatref03_Right_c23
def escheatref03_Right_c25 : ACode := .seq [0] escheatref03_Right_c5 escheatref03_Right_c24
def escheatref03_Right_c26 : ACode := .seq [0] escheatref03_Right_c0 escheatref03_Right_c25
def A_escheatref03_Right : AFn := ⟨escheatref03_Right_c26, [.tmp 2]⟩
noncomputable def E_escheatref03_Right : Sums := disp0
noncomputable def escheatref03_Right_c0_d (n : Nat) : SmV := smOps E_escheatref03_Right escheatref03_Right_o0
noncomputable def escheatref03_Right_c1_d (n : Nat) : SmV := smOps E_escheatref03_Right escheatref03_Right_o1
noncomputable def escheatref03_Right_c2_d (n : Nat) : SmV := smOps E_escheatref03_Right escheatref03_Right_o2
noncomputable def escheatref03_Right_c3_d (n : Nat) : SmV := smSeq [2] (escheatref03_Right_c2_d n) smRet
noncomputable def escheatref03_Right_c4_d (n : Nat) : SmV := smCond (.t 19) (escheatref03_Right_c3_d n) smSkip
noncomputable def escheatref03_Right_c5_d (n : Nat) : SmV := smSeq [0, 19] (escheatref03_Right_c1_d n) (escheatref03_Right_c4_d n)
noncomputable def escheatref03_Right_c6_d (n : Nat) : SmV := smOps E_escheatref03_Right escheatref03_Right_o3
noncomputable def escheatref03_Right_c7_d (n : Nat) : SmV := smOps E_escheatref03_Right escheatref03_Right_o4
noncomputable def escheatref03_Right_c8_d (n : Nat) : SmV := smCond (.t 23) smSkip (smExit 0)
noncomputable def escheatref03_Right_c9_d (n : Nat) : SmV := smSeq [0, 3, 23] (escheatref03_Right_c7_d n) (escheatref03_Right_c8_d n)
noncomputable def escheatref03_Right_c10_d (n : Nat) : SmV := smOps E_escheatref03_Right escheatref03_Right_o5
noncomputable def escheatref03_Right_c11_d (n : Nat) : SmV := smOps E_escheatref03_Right escheatref03_Right_o6
noncomputable def escheatref03_Right_c12_d (n : Nat) : SmV := smSeq [2] (escheatref03_Right_c11_d n) smRet
noncomputable def escheatref03_Right_c13_d (n : Nat) : SmV := smCond (.t 35) (escheatref03_Right_c12_d n) smSkip
noncomputable def escheatref03_Right_c14_d (n : Nat) : SmV := smSeq [0, 3, 35] (escheatref03_Right_c10_d n) (escheatref03_Right_c13_d n)
noncomputable def escheatref03_Right_c15_d (n : Nat) : SmV := smBlock 1 (escheatref03_Right_c14_d n)
noncomputable def escheatref03_Right_c16_d (n : Nat) : SmV := smOps E_escheatref03_Right escheatref03_Right_o7
noncomputable def escheatref03_Right_c17_d (n : Nat) : SmV := smSeq [0, 3] (escheatref03_Right_c15_d n) (escheatref03_Right_c16_d n)
noncomputable def escheatref03_Right_c18_d (n : Nat) : SmV := smSeq [0, 3] (escheatref03_Right_c9_d n) (escheatref03_Right_c17_d n)
noncomputable def escheatref03_Right_c19_d (n : Nat) : SmV := smLoop n [0, 3] (escheatref03_Right_c18_d n)
noncomputable def escheatref03_Right_c20_d (n : Nat) : SmV := smBlock 0 (escheatref03_Right_c19_d n)
noncomputable def escheatref03_Right_c21_d (n : Nat) : SmV := smSeq [0, 3] (escheatref03_Right_c6_d n) (escheatref03_Right_c20_d n)
noncomputable def escheatref03_Right_c22_d (n : Nat) : SmV := smOps E_escheatref03_Right escheatref03_Right_o8
noncomputable def escheatref03_Right_c23_d (n : Nat) : SmV := smSeq [2] (escheatref03_Right_c22_d n) smRet
noncomputable def escheatref03_Right_c24_d (n : Nat) : SmV := smSeq [] (escheatref03_Right_c21_d n) (escheatref03_Right_c23_d n)
noncomputable def escheatref03_Right_c25_d (n : Nat) : SmV := smSeq [0] (escheatref03_Right_c5_d n) (escheatref03_Right_c24_d n)
noncomputable def escheatref03_Right_c26_d (n : Nat) : SmV := smSeq [0] (escheatref03_Right_c0_d n) (escheatref03_Right_c25_d n)
noncomputable def escheatref03_Right_k0 (n : Nat) : AExit → Env → Heap → OptV := fun x e h => match x with | .normal => hold ((escheatref03_Right_c23_d n) A_escheatref03_Right.fin (e.keep []) h) | .exit id => A_escheatref03_Right.fin (.exit id) e h | .ret => A_escheatref03_Right.fin .ret e h
noncomputable def escheatref03_Right_k1 (n : Nat) : AExit → Env → Heap → OptV := fun x e h => match x with | .exit i => bif Nat.beq i 0 then (escheatref03_Right_k0 n) .normal e h else (escheatref03_Right_k0 n) (.exit i) e h | .normal => (escheatref03_Right_k0 n) .normal e h | .ret => (escheatref03_Right_k0 n) .ret e h
noncomputable def escheatref03_Right_l0 (n m : Nat) (x0 x3 : Val) (h : Heap) : OptV := around (escheatref03_Right_c18_d n) [0, 3] (escheatref03_Right_k1 n) m [(0, x0), (3, x3)] h
noncomputable def R_escheatref03_Right (n : Nat) (args : List Val) (h : Heap) : OptV := (escheatref03_Right_c26_d n) A_escheatref03_Right.fin (params 0 args) h
theorem R_escheatref03_Right_eq (n : Nat) (a0 : Val) (h : Heap) : R_escheatref03_Right n [a0] h = bnd (alenS a0) fun v1 => bnd (abin .lss v1 (.c (.i .i64 1))) fun v2 => bnd (gd v2 false (some (a0, h)) (some (.no, h))) fun p3 => bnd (gd v2 false (bnd (alenS p3.1) fun v4 => some (v4, p3.2)) (some (.no, p3.2))) fun p5 => bnd (gd v2 false (bnd (abin .gtr p5.1 (.c (.i .i64 24))) fun v6 => some (v6, p5.2)) (some (.no, p5.2))) fun p7 => bnd (apick v2 (.c (.b true)) p7.1) fun v8 => bnd (gd v8 false (some (a0, p7.2)) (some (.no, p7.2))) fun p9 => bnd (gd v8 false (bnd (abin .eql p9.1 (.c (.s [46]))) fun v10 => some (v10, p9.2)) (some (.no, p9.2))) fun p11 => bnd (apick v8 (.c (.b true)) p11.1) fun v12 => bnd (gd v12 false (some (a0, p11.2)) (some (.no, p11.2))) fun p13 => bnd (gd v12 false (bnd (abin .eql p13.1 (.c (.s [46, 46]))) fun v14 => some (v14, p13.2)) (some (.no, p13.2))) fun p15 => bnd (apick v12 (.c (.b true)) p15.1) fun v16 => cnd v16 (some ((.c (.b false)), p15.2)) (escheatref03_Right_l0 n n a0 (.c (.i .i64 0)) p15.2) := by kernel_rfl
theorem escheatref03_Right_l0_eq (n m : Nat) (x0 x3 : Val) (h : Heap) : escheatref03_Right_l0 n (m + 1) x0 x3 h = bnd (alenS x0) fun v17 => bnd (abin .lss x3 v17) fun v18 => cnd v18 (bnd (aidxS x0 x3) fun v19 => bnd (abin .eql v19 (.c (.i .u8 0))) fun v20 => bnd (gd v20 false (some (x0, h)) (some (.no, h))) fun p21 => bnd (gd v20 false (some (x3, p21.2)) (some (.no, p21.2))) fun p22 => bnd (gd v20 false (bnd (aidxS p21.1 p22.1) fun v23 => some (v23, p22.2)) (some (.no, p22.2))) fun p24 => bnd (gd v20 false (bnd (abin .eql p24.1 (.c (.i .u8 47))) fun v25 => some (v25, p24.2)) (some (.no, p24.2))) fun p26 => bnd (apick v20 (.c (.b true)) p26.1) fun v27 => cnd v27 (some ((.c (.b false)), p26.2)) (bnd (abin .add x3 (.c (.i .i64 1))) fun v28 => escheatref03_Right_l0 n m x0 v28 p26.2)) (some ((.c (.b true)), h)) := by kernel_rfl
theorem K_escheatref03_Right : FnK Try.prog 43 A_escheatref03_Right E_escheatref03_Right R_escheatref03_Right := .mk' (sound0) Try.func43 (by kernel_rfl) (by intro n args h; kernel_rfl)
noncomputable def S_escheatref03_Right : Fun := tidy (Lim A_escheatref03_Right E_escheatref03_Right)
theorem S_escheatref03_Right_ok : SOk Try.prog 43 S_escheatref03_Right := K_escheatref03_Right.sok
theorem S_escheatref03_Right_flat {n : Nat} {args : List Val} {h h2 : Heap} {v : Val} (he : R_escheatref03_Right n args (ro h) = some (v, h2)) (hf : v.flat = true) : S_escheatref03_Right args h = some (v, h) := K_escheatref03_Right.flat he hf
def escheatref03_Less_o0 : List AOper := [{ dst := some 4, op := .mv (.v (.c (.b false))) }]
def escheatref03_Less_c0 : ACode := .ops escheatref03_Less_o0
def escheatref03_Less_o1 : List AOper := [{ dst := some 5, op := .mv (.v (.c (.i .i64 0))) }]
def escheatref03_Less_c1 : ACode := .ops escheatref03_Less_o1
def escheatref03_Less_o2 : List AOper := [{ dst := some 6, op := .mv (.t 5) }, { dst := some 7, op := .mv (.t 0) }, { dst := some 8, op := .lenS (.t 7) }, { dst := some 9, op := .bin .lss (.t 6) (.t 8) }, { dst := some 10, op := .mv (.t 9) }, { dst := some 11, op := .mv (.t 5), guard := some (10, true) }, { dst := some 12, op := .mv (.t 1), guard := some (10, true) }, { dst := some 13, op := .lenS (.t 12), guard := some (10, true) }, { dst := some 14, op := .bin .lss (.t 11) (.t 13), guard := some (10, true) }, { dst := some 15, op := .pick (.t 10) (.t 14) (.v (.c (.b false))) }]
def escheatref03_Less_c2 : ACode := .ops escheatref03_Less_o2
def escheatref03_Less_c3 : ACode := .cond (.t 15) .skip (.exit 0)
def escheatref03_Less_c4 : ACode := .seq [0, 1, 5, 15] escheatref03_Less_c2 escheatref03_Less_c3
def escheatref03_Less_o3 : List AOper := [{ dst := some 18, op := .mv (.t 0) }, { dst := some 19, op := .mv (.t 5) }, { dst := some 20, op := .idxS (.t 18) (.t 19) }, { dst := some 21, op := .mv (.t 1) }, { dst := some 22, op := .mv (.t 5) }, { dst := some 23, op := .idxS (.t 21) (.t 22) }]
def escheatref03_Less_o4 : List AOper := [{ dst := some 24, op := .bin .neq (.t 20) (.t 23) }]
def escheatref03_Less_c5 : ACode := .draw 0 escheatref03_Less_o3 escheatref03_Less_o4
def escheatref03_Less_o5 : List AOper := [{ dst := some 25, op := .mv (.t 0) }, { dst := some 26, op := .mv (.t 5) }, { dst := some 27, op := .idxS (.t 25) (.t 26) }, { dst := some 28, op := .mv (.t 1) }, { dst := some 29, op := .mv (.t 5) }, { dst := some 30, op := .idxS (.t 28) (.t 29) }]
def escheatref03_Less_o6 : List AOper := [{ dst := some 31, op := .bin .lss (.t 27) (.t 30) }, { dst := some 4, op := .mv (.t 31) }]
def escheatref03_Less_c6 : ACode := .draw 0 escheatref03_Less_o5 escheatref03_Less_o6
def escheatref03_Less_c7 : ACode := .seq [4] escheatref03_Less_c6 .ret
def escheatref03_Less_c8 : ACode := .cond (.t 24) escheatref03_Less_c7 .skip
def escheatref03_Less_c9 : ACode := .seq [0, 1, 5, 24] escheatref03_Less_c5 escheatref03_Less_c8
def escheatref03_Less_c10 : ACode := .block 1 escheatref03_Less_c9
def escheatref03_Less_o7 : List AOper := [{ dst := some 16, op := .mv (.t 5) }, { dst := some 17, op := .bin .add (.t 16) (.v (.c (.i .i64 1))) }, { dst := some 5, op := .mv (.t 17) }]
def escheatref03_Less_c11 : ACode := .ops escheatref03_Less_o7
def escheatref03_Less_c12 : ACode := .seq [0, 1, 5] escheatref03_Less_c10 escheatref03_Less_c11
def escheatref03_Less_c13 : ACode := .seq [0, 1, 5] escheatref03_Less_c4 escheatref03_Less_c12
def escheatref03_Less_c14 : ACode := .loop [0, 1, 5] escheatref03_Less_c13
def escheatref03_Less_c15 : ACode := .block 0 escheatref03_Less_c14
def escheatref03_Less_c16 : ACode := .seq [0, 1, 5] escheatref03_Less_c1 escheatref03_Less_c15
def escheatref03_Less_o8 : List AOper := [{ dst := some 32, op := .mv (.t 0) }, { dst := some 33, op := .lenS (.t 32) }, { dst := some 34, op := .mv (.t 1) }, { dst := some 35, op := .lenS (.t 34) }, { dst := some 36, op := .bin .lss (.t 33) (.t 35) }, { dst := some 4, op := .mv (.t 36) }]
def escheatref03_Less_c17 : ACode := .ops escheatref03_Less_o8
def escheatref03_Less_c18 : ACode := .seq [4] escheatref03_Less_c17 .ret
def escheatref03_Less_c19 : ACode := .seq [0, 1] escheatref03_Less_c16 escheatref03_Less_c18
def escheatref03_Less_c20 : ACode := .seq [0, 1] escheatref03_Less_c0 escheatref03_Less_c19
def A_escheatref03_Less : AFn := ⟨escheatref03_Less_c20, [.tmp 4]⟩
noncomputable def E_escheatref03_Less : Sums := disp0
noncomputable def escheatref03_Less_c0_d (n : Nat) : SmV := smOps E_escheatref03_Less escheatref03_Less_o0
noncomputable def escheatref03_Less_c1_d (n : Nat) : SmV := smOps E_escheatref03_Less escheatref03_Less_o1
noncomputable def escheatref03_Less_c2_d (n : Nat) : SmV := smOps E_escheatref03_Less escheatref03_Less_o2
noncomputable def escheatref03_Less_c3_d (n : Nat) : SmV := smCond (.t 15) smSkip (smExit 0)
noncomputable def escheatref03_Less_c4_d (n : Nat) : SmV := smSeq [0, 1, 5, 15] (escheatref03_Less_c2_d n) (escheatref03_Less_c3_d n)
noncomputable def escheatref03_Less_c5_d (n : Nat) : SmV := smDraw E_escheatref03_Less 0 escheatref03_Less_o3 escheatref03_Less_o4
noncomputable def escheatref03_Less_c6_d (n : Nat) : SmV := smDraw E_escheatref03_Less 0 escheatref03_Less_o5 escheatref03_Less_o6
noncomputable def escheatref03_Less_c7_d (n : Nat) : SmV := smSeq [4] (escheatref03_Less_c6_d n) smRet
noncomputable def escheatref03_Less_c8_d (n : Nat) : SmV := smCond (.t 24) (escheatref03_Less_c7_d n) smSkip
noncomputable def escheatref03_Less_c9_d (n : Nat) : SmV := smSeq [0, 1, 5, 24] (escheatref03_Less_c5_d n) (escheatref03_Less_c8_d n)
noncomputable def escheatref03_Less_c10_d (n : Nat) : SmV := smBlock 1 (escheatref03_Less_c9_d n)
noncomputable def escheatref03_Less_c11_d (n : Nat) : SmV := smOps E_escheatref03_Less escheatref03_Less_o7
noncomputable def escheatref03_Less_c12_d (n : Nat) : SmV := smSeq [0, 1, 5] (escheatref03_Less_c10_d n) (escheatref03_Less_c11_d n)
noncomputable def escheatref03_Less_c13_d (n : Nat) : SmV := smSeq [0, 1, 5] (escheatref03_Less_c4_d n) (escheatref03_Less_c12_d n)
noncomputable def escheatref03_Less_c14_d (n : Nat) : SmV := smLoop n [0, 1, 5] (escheatref03_Less_c13_d n)
noncomputable def escheatref03_Less_c15_d (n : Nat) : SmV := smBlock 0 (escheatref03_Less_c14_d n)
noncomputable def escheatref03_Less_c16_d (n : Nat) : SmV := smSeq [0, 1, 5] (escheatref03_Less_c1_d n) (escheatref03_Less_c15_d n)
noncomputable def escheatref03_Less_c17_d (n : Nat) : SmV := smOps E_escheatref03_Less escheatref03_Less_o8
noncomputable def escheatref03_Less_c18_d (n : Nat) : SmV := smSeq [4] (escheatref03_Less_c17_d n) smRet
noncomputable def escheatref03_Less_c19_d (n : Nat) : SmV := smSeq [0, 1] (escheatref03_Less_c16_d n) (escheatref03_Less_c18_d n)
noncomputable def escheatref03_Less_c20_d (n : Nat) : SmV := smSeq [0, 1] (escheatref03_Less_c0_d n) (escheatref03_Less_c19_d n)
noncomputable def escheatref03_Less_k0 (n : Nat) : AExit → Env → Heap → OptV := fun x e h => match x with | .normal => hold ((escheatref03_Less_c18_d n) A_escheatref03_Less.fin (e.keep [0, 1]) h) | .exit id => A_escheatref03_Less.fin (.exit id) e h | .ret => A_escheatref03_Less.fin .ret e h
noncomputable def escheatref03_Less_k1 (n : Nat) : AExit → Env → Heap → OptV := fun x e h => match x with | .exit i => bif Nat.beq i 0 then (escheatref03_Less_k0 n) .normal e h else (escheatref03_Less_k0 n) (.exit i) e h | .normal => (escheatref03_Less_k0 n) .normal e h | .ret => (escheatref03_Less_k0 n) .ret e h
noncomputable def escheatref03_Less_l0 (n m : Nat) (x0 x1 x5 : Val) (h : Heap) : OptV := around (escheatref03_Less_c13_d n) [0, 1, 5] (escheatref03_Less_k1 n) m [(0, x0), (1, x1), (5, x5)] h
noncomputable def R_escheatref03_Less (n : Nat) (args : List Val) (h : Heap) : OptV := (escheatref03_Less_c20_d n) A_escheatref03_Less.fin (params 0 args) h
theorem R_escheatref03_Less_eq (n : Nat) (a0 a1 : Val) (h : Heap) : R_escheatref03_Less n [a0, a1] h = escheatref03_Less_l0 n n a0 a1 (.c (.i .i64 0)) h := by kernel_rfl
theorem escheatref03_Less_l0_eq (n m : Nat) (x0 x1 x5 : Val) (h : Heap) : escheatref03_Less_l0 n (m + 1) x0 x1 x5 h = bnd (alenS x0) fun v1 => bnd (abin .lss x5 v1) fun v2 => bnd (gd v2 true (some (x5, h)) (some (.no, h))) fun p3 => bnd (gd v2 true (some (x1, p3.2)) (some (.no, p3.2))) fun p4 => bnd (gd v2 true (bnd (alenS p4.1) fun v5 => some (v5, p4.2)) (some (.no, p4.2))) fun p6 => bnd (gd v2 true (bnd (abin .lss p3.1 p6.1) fun v7 => some (v7, p6.2)) (some (.no, p6.2))) fun p8 => bnd (apick v2 p8.1 (.c (.b false))) fun v9 => cnd v9 (bnd (aidxS x0 x5) fun v10 => bnd (aidxS x1 x5) fun v11 => bnd (abin .neq v10 v11) fun v12 => cnd v12 (bnd (aidxS x0 x5) fun v13 => bnd (aidxS x1 x5) fun v14 => bnd (abin .lss v13 v14) fun v15 => some (v15, (((p8.2 ++ [])) ++ []))) (bnd (abin .add x5 (.c (.i .i64 1))) fun v16 => escheatref03_Less_l0 n m x0 x1 v16 ((p8.2 ++ [])))) (bnd (alenS x0) fun v17 => bnd (alenS x1) fun v18 => bnd (abin .lss v17 v18) fun v19 => some (v19, p8.2)) := by kernel_rfl
theorem K_escheatref03_Less : FnK Try.prog 45 A_escheatref03_Less E_escheatref03_Less R_escheatref03_Less := .mk' (sound0) Try.func45 (by kernel_rfl) (by intro n args h; kernel_rfl)
noncomputable def S_escheatref03_Less : Fun := tidy (Lim A_escheatref03_Less E_escheatref03_Less)
theorem S_escheatref03_Less_ok : SOk Try.prog 45 S_escheatref03_Less := K_escheatref03_Less.sok
theorem S_escheatref03_Less_flat {n : Nat} {args : List Val} {h h2 : Heap} {v : Val} (he : R_escheatref03_Less n args (ro h) = some (v, h2)) (hf : v.flat = true) : S_escheatref03_Less args h = some (v, h) := K_escheatref03_Less.flat he hf
def escheatref03_Pack_o0 : List AOper := [{ dst := some 2, op := .nilrow 1 }]
def escheatref03_Pack_c0 : ACode := .ops escheatref03_Pack_o0
def escheatref03_Pack_o1 : List AOper := [{ dst := some 5, op := .mv (.t 0) }, { dst := some 6, op := .lenS (.t 5) }, { dst := some 7, op := .conv .u8 (.t 6) }, { dst := some 8, op := .buildSl 1 1 ([.i .u8 0]) [(0, 1, (.t 7))] }, { dst := some 3, op := .mv (.t 8) }]
def escheatref03_Pack_c1 : ACode := .ops escheatref03_Pack_o1
def escheatref03_Pack_o2 : List AOper := [{ dst := some 4, op := .mv (.v (.c (.i .i64 0))) }]
def escheatref03_Pack_c2 : ACode := .ops escheatref03_Pack_o2
def escheatref03_Pack_o3 : List AOper := [{ dst := some 9, op := .mv (.t 4) }, { dst := some 10, op := .bin .lss (.t 9) (.v (.c (.i .i64 24))) }]
def escheatref03_Pack_c3 : ACode := .ops escheatref03_Pack_o3
def escheatref03_Pack_c4 : ACode := .cond (.t 10) .skip (.exit 0)
def escheatref03_Pack_c5 : ACode := .seq [0, 3, 4, 10] escheatref03_Pack_c3 escheatref03_Pack_c4
def escheatref03_Pack_o4 : List AOper := [{ dst := some 13, op := .mv (.t 4) }, { dst := some 14, op := .mv (.t 0) }, { dst := some 15, op := .lenS (.t 14) }, { dst := some 16, op := .bin .lss (.t 13) (.t 15) }]
def escheatref03_Pack_c6 : ACode := .ops escheatref03_Pack_o4
def escheatref03_Pack_o5 : List AOper := [{ dst := some 17, op := .mv (.t 3) }, { dst := some 18, op := .mv (.t 0) }, { dst := some 19, op := .mv (.t 4) }, { dst := some 20, op := .idxS (.t 18) (.t 19) }, { dst := some 21, op := .buildSl 1 1 ([.i .u8 0]) [(0, 1, (.t 20))] }, { dst := some 22, op := .app 1 (.t 17) (.t 21) }, { dst := some 3, op := .mv (.t 22) }]
def escheatref03_Pack_c7 : ACode := .ops escheatref03_Pack_o5
def escheatref03_Pack_o6 : List AOper := [{ dst := some 23, op := .mv (.t 3) }, { dst := some 24, op := .buildSl 1 1 ([.i .u8 0]) [(0, 1, (.v (.c (.i .u8 0))))] }, { dst := some 25, op := .app 1 (.t 23) (.t 24) }, { dst := some 3, op := .mv (.t 25) }]
def escheatref03_Pack_c8 : ACode := .ops escheatref03_Pack_o6
def escheatref03_Pack_c9 : ACode := .cond (.t 16) escheatref03_Pack_c7 escheatref03_Pack_c8
def escheatref03_Pack_c10 : ACode := .seq [0, 3, 4, 16] escheatref03_Pack_c6 escheatref03_Pack_c9
def escheatref03_Pack_c11 : ACode := .block 1 escheatref03_Pack_c10
def escheatref03_Pack_o7 : List AOper := [{ dst := some 11, op := .mv (.t 4) }, { dst := some 12, op := .bin .add (.t 11) (.v (.c (.i .i64 1))) }, { dst := some 4, op := .mv (.t 12) }]
def escheatref03_Pack_c12 : ACode := .ops escheatref03_Pack_o7
def escheatref03_Pack_c13 : ACode := .seq [0, 3, 4] escheatref03_Pack_c11 escheatref03_Pack_c12
def escheatref03_Pack_c14 : ACode := .seq [0, 3, 4] escheatref03_Pack_c5 escheatref03_Pack_c13
def escheatref03_Pack_c15 : ACode := .loop [0, 3, 4] escheatref03_Pack_c14
def escheatref03_Pack_c16 : ACode := .block 0 escheatref03_Pack_c15
def escheatref03_Pack_c17 : ACode := .seq [0, 3, 4] escheatref03_Pack_c2 escheatref03_Pack_c16
def escheatref03_Pack_o8 : List AOper := [{ dst := some 26, op := .mv (.t 3) }, { dst := some 2, op := .mv (.t 26) }]
def escheatref03_Pack_c18 : ACode := .ops escheatref03_Pack_o8
def escheatref03_Pack_c19 : ACode := .seq [2] escheatref03_Pack_c18 .ret
def escheatref03_Pack_c20 : ACode := .seq [3] escheatref03_Pack_c17 escheatref03_Pack_c19
def escheatref03_Pack_c21 : ACode := .seq [0, 3] escheatref03_Pack_c1 escheatref03_Pack_c20
def escheatref03_Pack_c22 : ACode := .seq [0] escheatref03_Pack_c0 escheatref03_Pack_c21
def A_escheatref03_Pack : AFn := ⟨escheatref03_Pack_c22, [.tmp 2]⟩
noncomputable def E_escheatref03_Pack : Sums := disp0
noncomputable def escheatref03_Pack_c0_d (n : Nat) : SmV := smOps E_escheatref03_Pack escheatref03_Pack_o0
noncomputable def escheatref03_Pack_c1_d (n : Nat) : SmV := smOps E_escheatref03_Pack escheatref03_Pack_o1
noncomputable def escheatref03_Pack_c2_d (n : Nat) : SmV := smOps E_escheatref03_Pack escheatref03_Pack_o2
noncomputable def escheatref03_Pack_c3_d (n : Nat) : SmV := smOps E_escheatref03_Pack escheatref03_Pack_o3
noncomputable def escheatref03_Pack_c4_d (n : Nat) : SmV := smCond (.t 10) smSkip (smExit 0)
noncomputable def escheatref03_Pack_c5_d (n : Nat) : SmV := smSeq [0, 3, 4, 10] (escheatref03_Pack_c3_d n) (escheatref03_Pack_c4_d n)
noncomputable def escheatref03_Pack_c6_d (n : Nat) : SmV := smOps E_escheatref03_Pack escheatref03_Pack_o4
noncomputable def escheatref03_Pack_c7_d (n : Nat) : SmV := smOps E_escheatref03_Pack escheatref03_Pack_o5
noncomputable def escheatref03_Pack_c8_d (n : Nat) : SmV := smOps E_escheatref03_Pack escheatref03_Pack_o6
noncomputable def escheatref03_Pack_c9_d (n : Nat) : SmV := smCond (.t 16) (escheatref03_Pack_c7_d n) (escheatref03_Pack_c8_d n)
noncomputable def escheatref03_Pack_c10_d (n : Nat) : SmV := smSeq [0, 3, 4, 16] (escheatref03_Pack_c6_d n) (escheatref03_Pack_c9_d n)
noncomputable def escheatref03_Pack_c11_d (n : Nat) : SmV := smBlock 1 (escheatref03_Pack_c10_d n)
noncomputable def escheatref03_Pack_c12_d (n : Nat) : SmV := smOps E_escheatref03_Pack escheatref03_Pack_o7
noncomputable def escheatref03_Pack_c13_d (n : Nat) : SmV := smSeq [0, 3, 4] (escheatref03_Pack_c11_d n) (escheatref03_Pack_c12_d n)
noncomputable def escheatref03_Pack_c14_d (n : Nat) : SmV := smSeq [0, 3, 4] (escheatref03_Pack_c5_d n) (escheatref03_Pack_c13_d n)
noncomputable def escheatref03_Pack_c15_d (n : Nat) : SmV := smLoop n [0, 3, 4] (escheatref03_Pack_c14_d n)
noncomputable def escheatref03_Pack_c16_d (n : Nat) : SmV := smBlock 0 (escheatref03_Pack_c15_d n)
noncomputable def escheatref03_Pack_c17_d (n : Nat) : SmV := smSeq [0, 3, 4] (escheatref03_Pack_c2_d n) (escheatref03_Pack_c16_d n)
noncomputable def escheatref03_Pack_c18_d (n : Nat) : SmV := smOps E_escheatref03_Pack escheatref03_Pack_o8
noncomputable def escheatref03_Pack_c19_d (n : Nat) : SmV := smSeq [2] (escheatref03_Pack_c18_d n) smRet
noncomputable def escheatref03_Pack_c20_d (n : Nat) : SmV := smSeq [3] (escheatref03_Pack_c17_d n) (escheatref03_Pack_c19_d n)
noncomputable def escheatref03_Pack_c21_d (n : Nat) : SmV := smSeq [0, 3] (escheatref03_Pack_c1_d n) (escheatref03_Pack_c20_d n)
noncomputable def escheatref03_Pack_c22_d (n : Nat) : SmV := smSeq [0] (escheatref03_Pack_c0_d n) (escheatref03_Pack_c21_d n)
noncomputable def escheatref03_Pack_k0 (n : Nat) : AExit → Env → Heap → OptV := fun x e h => match x with | .normal => hold ((escheatref03_Pack_c19_d n) A_escheatref03_Pack.fin (e.keep [3]) h) | .exit id => A_escheatref03_Pack.fin (.exit id) e h | .ret => A_escheatref03_Pack.fin .ret e h
noncomputable def escheatref03_Pack_k1 (n : Nat) : AExit → Env → Heap → OptV := fun x e h => match x with | .exit i => bif Nat.beq i 0 then (escheatref03_Pack_k0 n) .normal e h else (escheatref03_Pack_k0 n) (.exit i) e h | .normal => (escheatref03_Pack_k0 n) .normal e h | .ret => (escheatref03_Pack_k0 n) .ret e h
noncomputable def escheatref03_Pack_l0 (n m : Nat) (x0 x3 x4 : Val) (h : Heap) : OptV := around (escheatref03_Pack_c14_d n) [0, 3, 4] (escheatref03_Pack_k1 n) m [(0, x0), (3, x3), (4, x4)] h
noncomputable def R_escheatref03_Pack (n : Nat) (args : List Val) (h : Heap) : OptV := (escheatref03_Pack_c22_d n) A_escheatref03_Pack.fin (params 0 args) h
noncomputable def escheatref03_Pack_k2 (n m : Nat) : AExit → Env → Heap → OptV := fun x e h => match x with | .normal => around (escheatref03_Pack_c14_d n) [0, 3, 4] (escheatref03_Pack_k1 n) m (e.keep [0, 3, 4]) h | .exit id => (escheatref03_Pack_k1 n) (.exit id) e h | .ret => (escheatref03_Pack_k1 n) .ret e h
noncomputable def escheatref03_Pack_j0 (n m : Nat) (x0 x3 x4 : Val) (h : Heap) : OptV := hold ((escheatref03_Pack_c12_d n) (escheatref03_Pack_k2 n m) [(0, x0), (3, x3), (4, x4)] h)
theorem R_escheatref03_Pack_eq (n : Nat) (a0 : Val) (h : Heap) : R_escheatref03_Pack n [a0] h = bnd (alenS a0) fun v1 => bnd (aconv .u8 v1) fun v2 => bnd (afill ([.i .u8 0]) [(0, 1, v2)]) fun c3 => escheatref03_Pack_l0 n n a0 ((.c (.sl ((h ++ [some (Row.mk ([]) true)])).length 0 1 1))) (.c (.i .i64 0)) (((h ++ [some (Row.mk ([]) true)]) ++ [some (Row.mk (c3) true)])) := by kernel_rfl
theorem escheatref03_Pack_l0_eq (n m : Nat) (x0 x3 x4 : Val) (h : Heap) : escheatref03_Pack_l0 n (m + 1) x0 x3 x4 h = bnd (abin .lss x4 (.c (.i .i64 24))) fun v4 => cnd v4 (bnd (alenS x0) fun v5 => bnd (abin .lss x4 v5) fun v6 => cnd v6 (bnd (aidxS x0 x4) fun v7 => bnd (afill ([.i .u8 0]) [(0, 1, v7)]) fun c8 => bnd (aapp ((h ++ [some (Row.mk (c8) true)])) 1 x3 ((.c (.sl h.length 0 1 1)))) fun p9 => escheatref03_Pack_j0 n m x0 p9.1 x4 p9.2) (bnd (afill ([.i .u8 0]) [(0, 1, .c (.i .u8 0))]) fun c10 => bnd (aapp ((h ++ [some (Row.mk (c10) true)])) 1 x3 ((.c (.sl h.length 0 1 1)))) fun p11 => escheatref03_Pack_j0 n m x0 p11.1 x4 p11.2)) (some (x3, h)) := by kernel_rfl
theorem escheatref03_Pack_j0_eq (n m : Nat) (x0 x3 x4 : Val) (h : Heap) : escheatref03_Pack_j0 n m x0 x3 x4 h = bnd (abin .add x4 (.c (.i .i64 1))) fun v12 => escheatref03_Pack_l0 n m x0 x3 v12 h := by kernel_rfl
theorem K_escheatref03_Pack : FnK Try.prog 48 A_escheatref03_Pack E_escheatref03_Pack R_escheatref03_Pack := .mk' (sound0) Try.func48 (by kernel_rfl) (by intro n args h; kernel_rfl)
noncomputable def S_escheatref03_Pack : Fun := tidy (Lim A_escheatref03_Pack E_escheatref03_Pack)
theorem S_escheatref03_Pack_ok : SOk Try.prog 48 S_escheatref03_Pack := K_escheatref03_Pack.sok
theorem S_escheatref03_Pack_low {n : Nat} {args : List Val} {h h2 : Heap} {v : Val} (he : R_escheatref03_Pack n args (ro h) = some (v, h2)) (hf : v.low h.length = true) : S_escheatref03_Pack args h = some (v, h) := K_escheatref03_Pack.low he hf
theorem S_escheatref03_Pack_out {n : Nat} {args : List Val} {h h2 : Heap} {v : Val} {sz k : Nat} {cs : List Cell} (he : R_escheatref03_Pack n args (ro h) = some (v, h2)) (ho : Out h.length h2 v sz k cs) (hf : flats cs = true) : S_escheatref03_Pack args h = some (.c (.sl h.length 0 k sz), h ++ [some ⟨cs, true⟩]) := K_escheatref03_Pack.out he ho hf
def escheatref03_Unpack_o0 : List AOper := [{ dst := some 2, op := .mv (.v (.c (.s []))) }, { dst := some 3, op := .mv (.v (.c (.b false))) }]
def escheatref03_Unpack_c0 : ACode := .ops escheatref03_Unpack_o0
def escheatref03_Unpack_o1 : List AOper := [{ dst := some 5, op := .mv (.t 0) }, { dst := some 6, op := .len (.t 5) }, { dst := some 7, op := .bin .neq (.t 6) (.v (.c (.i .i64 25))) }, { dst := some 8, op := .mv (.t 7) }, { dst := some 9, op := .mv (.t 0), guard := some (8, false) }, { dst := some 10, op := .iAddrL 1 (.t 9) (.v (.c (.i .i64 0))), guard := some (8, false) }, { dst := some 11, op := .load1 (.t 10), guard := some (8, false) }, { dst := some 12, op := .bin .gtr (.t 11) (.v (.c (.i .u8 24))), guard := some (8, false) }, { dst := some 13, op := .pick (.t 8) (.v (.c (.b true))) (.t 12) }]
def escheatref03_Unpack_c1 : ACode := .ops escheatref03_Unpack_o1
def escheatref03_Unpack_o2 : List AOper := [{ dst := some 2, op := .mv (.v (.c (.s []))) }, { dst := some 3, op := .mv (.v (.c (.b false))) }]
def escheatref03_Unpack_c2 : ACode := .ops escheatref03_Unpack_o2
def escheatref03_Unpack_c3 : ACode := .seq [2, 3] escheatref03_Unpack_c2 .ret
def escheatref03_Unpack_c4 : ACode := .cond (.t 13) escheatref03_Unpack_c3 .skip
def escheatref03_Unpack_c5 : ACode := .seq [0, 13] escheatref03_Unpack_c1 escheatref03_Unpack_c4
def escheatref03_Unpack_o3 : List AOper := [{ dst := some 14, op := .mv (.t 0) }, { dst := some 15, op := .mv (.t 0) }, { dst := some 16, op := .iAddrL 1 (.t 15) (.v (.c (.i .i64 0))) }, { dst := some 17, op := .load1 (.t 16) }, { dst := some 18, op := .conv .i64 (.t 17) }, { dst := some 19, op := .bin .add (.v (.c (.i .i64 1))) (.t 18) }, { dst := some 20, op := .slL 1 (.t 14) (some (.v (.c (.i .i64 1)))) (some (.t 19)) }, { dst := some 21, op := .b2s (.t 20) }, { dst := some 4, op := .mv (.t 21) }]
def escheatref03_Unpack_c6 : ACode := .ops escheatref03_Unpack_o3
def escheatref03_Unpack_o4 : List AOper := [{ dst := some 22, op := .mv (.t 4) }, { dst := some 23, op := .call 43 [(.t 22)] }, { dst := some 24, op := .un .not (.t 23) }, { dst := some 25, op := .mv (.t 24) }, { dst := some 26, op := .mv (.t 4), guard := some (25, false) }, { dst := some 27, op := .call 48 [(.t 26)], guard := some (25, false) }, { dst := some 28, op := .mv (.t 0), guard := some (25, false) }, { dst := some 29, op := .call 47 [(.t 27), (.t 28)], guard := some (25, false) }, { dst := some 30, op := .un .not (.t 29), guard := some (25, false) }, { dst := some 31, op := .pick (.t 25) (.v (.c (.b true))) (.t 30) }]
def escheatref03_Unpack_c7 : ACode := .ops escheatref03_Unpack_o4
def escheatref03_Unpack_o5 : List AOper := [{ dst := some 2, op := .mv (.v (.c (.s []))) }, { dst := some 3, op := .mv (.v (.c (.b false))) }]
def escheatref03_Unpack_c8 : ACode := .ops escheatref03_Unpack_o5
def escheatref03_Unpack_c9 : ACode := .seq [2, 3] escheatref03_Unpack_c8 .ret
def escheatref03_Unpack_c10 : ACode := .cond (.t 31) escheatref03_Unpack_c9 .skip
def escheatref03_Unpack_c11 : ACode := .seq [4, 31] escheatref03_Unpack_c7 escheatref03_Unpack_c10
def escheatref03_Unpack_o6 : List AOper := [{ dst := some 32, op := .mv (.t 4) }, { dst := some 2, op := .mv (.t 32) }, { dst := some 3, op := .mv (.v (.c (.b true))) }]
def escheatref03_Unpack_c12 : ACode := .ops escheatref03_Unpack_o6
def escheatref03_Unpack_c13 : ACode := .seq [2, 3] escheatref03_Unpack_c12 .ret
def escheatref03_Unpack_c14 : ACode := .seq [4] escheatref03_Unpack_c11 escheatref03_Unpack_c13
def escheatref03_Unpack_c15 : ACode := .seq [0, 4] escheatref03_Unpack_c6 escheatref03_Unpack_c14
def escheatref03_Unpack_c16 : ACode := .seq [0] escheatref03_Unpack_c5 escheatref03_Unpack_c15
def escheatref03_Unpack_c17 : ACode := .seq [0] escheatref03_Unpack_c0 escheatref03_Unpack_c16
def A_escheatref03_Unpack : AFn := ⟨escheatref03_Unpack_c17, [.tmp 2, .tmp 3]⟩
noncomputable def E_escheatref03_Unpack : Sums := disp 43 S_escheatref03_Right (disp 48 S_escheatref03_Pack (disp 47 S_escheatref01_Same disp0))
noncomputable def escheatref03_Unpack_c0_d (n : Nat) : SmV := smOps E_escheatref03_Unpack escheatref03_Unpack_o0
noncomputable def escheatref03_Unpack_c1_d (n : Nat) : SmV := smOps E_escheatref03_Unpack escheatref03_Unpack_o1
noncomputable def escheatref03_Unpack_c2_d (n : Nat) : SmV := smOps E_escheatref03_Unpack escheatref03_Unpack_o2
noncomputable def escheatref03_Unpack_c3_d (n : Nat) : SmV := smSeq [2, 3] (escheatref03_Unpack_c2_d n) smRet
noncomputable def escheatref03_Unpack_c4_d (n : Nat) : SmV := smCond (.t 13) (escheatref03_Unpack_c3_d n) smSkip
noncomputable def escheatref03_Unpack_c5_d (n : Nat) : SmV := smSeq [0, 13] (escheatref03_Unpack_c1_d n) (escheatref03_Unpack_c4_d n)
noncomputable def escheatref03_Unpack_c6_d (n : Nat) : SmV := smOps E_escheatref03_Unpack escheatref03_Unpack_o3
noncomputable def escheatref03_Unpack_c7_d (n : Nat) : SmV := smOps E_escheatref03_Unpack escheatref03_Unpack_o4
noncomputable def escheatref03_Unpack_c8_d (n : Nat) : SmV := smOps E_escheatref03_Unpack escheatref03_Unpack_o5
noncomputable def escheatref03_Unpack_c9_d (n : Nat) : SmV := smSeq [2, 3] (escheatref03_Unpack_c8_d n) smRet
noncomputable def escheatref03_Unpack_c10_d (n : Nat) : SmV := smCond (.t 31) (escheatref03_Unpack_c9_d n) smSkip
noncomputable def escheatref03_Unpack_c11_d (n : Nat) : SmV := smSeq [4, 31] (escheatref03_Unpack_c7_d n) (escheatref03_Unpack_c10_d n)
noncomputable def escheatref03_Unpack_c12_d (n : Nat) : SmV := smOps E_escheatref03_Unpack escheatref03_Unpack_o6
noncomputable def escheatref03_Unpack_c13_d (n : Nat) : SmV := smSeq [2, 3] (escheatref03_Unpack_c12_d n) smRet
noncomputable def escheatref03_Unpack_c14_d (n : Nat) : SmV := smSeq [4] (escheatref03_Unpack_c11_d n) (escheatref03_Unpack_c13_d n)
noncomputable def escheatref03_Unpack_c15_d (n : Nat) : SmV := smSeq [0, 4] (escheatref03_Unpack_c6_d n) (escheatref03_Unpack_c14_d n)
noncomputable def escheatref03_Unpack_c16_d (n : Nat) : SmV := smSeq [0] (escheatref03_Unpack_c5_d n) (escheatref03_Unpack_c15_d n)
noncomputable def escheatref03_Unpack_c17_d (n : Nat) : SmV := smSeq [0] (escheatref03_Unpack_c0_d n) (escheatref03_Unpack_c16_d n)
noncomputable def R_escheatref03_Unpack (n : Nat) (args : List Val) (h : Heap) : OptV := (escheatref03_Unpack_c17_d n) A_escheatref03_Unpack.fin (params 0 args) h
theorem R_escheatref03_Unpack_eq (n : Nat) (a0 : Val) (h : Heap) : R_escheatref03_Unpack n [a0] h = bnd (alen a0) fun v1 => bnd (abin .neq v1 (.c (.i .i64 25))) fun v2 => bnd (gd v2 false (some (a0, h)) (some (.no, h))) fun p3 => bnd (gd v2 false (bnd (aiAddrL 1 p3.1 (.c (.i .i64 0))) fun v4 => some (v4, p3.2)) (some (.no, p3.2))) fun p5 => bnd (gd v2 false (bnd (aload1 p5.2 p5.1) fun v6 => some (v6, p5.2)) (some (.no, p5.2))) fun p7 => bnd (gd v2 false (bnd (abin .gtr p7.1 (.c (.i .u8 24))) fun v8 => some (v8, p7.2)) (some (.no, p7.2))) fun p9 => bnd (apick v2 (.c (.b true)) p9.1) fun v10 => cnd v10 (tupN [some (.c (.s [])), some (.c (.b false))] p9.2) (bnd (aiAddrL 1 a0 (.c (.i .i64 0))) fun v11 => bnd (aload1 p9.2 v11) fun v12 => bnd (aconv .i64 v12) fun v13 => bnd (abin .add (.c (.i .i64 1)) v13) fun v14 => bnd (aslL 1 a0 (some (.c (.i .i64 1))) (some v14)) fun v15 => bnd (ab2s p9.2 v15) fun v16 => bnd (S_escheatref03_Right [v16] p9.2) fun p17 => bnd (aun .not p17.1) fun v18 => bnd (gd v18 false (some (v16, p17.2)) (some (.no, p17.2))) fun p19 => bnd (gd v18 false (bnd (S_escheatref03_Pack [p19.1] p19.2) fun p20 => some (p20.1, p20.2)) (some (.no, p19.2))) fun p21 => bnd (gd v18 false (some (a0, p21.2)) (some (.no, p21.2))) fun p22 => bnd (gd v18 false (bnd (S_escheatref01_Same [p21.1, p22.1] p22.2) fun p23 => some (p23.1, p23.2)) (some (.no, p22.2))) fun p24 => bnd (gd v18 false (bnd (aun .not p24.1) fun v25 => some (v25, p24.2)) (some (.no, p24.2))) fun p26 => bnd (apick v18 (.c (.b true)) p26.1) fun v27 => cnd v27 (tupN [some (.c (.s [])), some (.c (.b false))] p26.2) (tupN [some v16, some (.c (.b true))] p26.2)) := by kernel_rfl
theorem K_escheatref03_Unpack : FnK Try.prog 50 A_escheatref03_Unpack E_escheatref03_Unpack R_escheatref03_Unpack := .mk' (sound1 S_escheatref03_Right_ok (sound1 S_escheatref03_Pack_ok (sound1 S_escheatref01_Same_ok sound0))) Try.func50 (by kernel_rfl) (by intro n args h; kernel_rfl)
noncomputable def S_escheatref03_Unpack : Fun := tidy (Lim A_escheatref03_Unpack E_escheatref03_Unpack)
theorem S_escheatref03_Unpack_ok : SOk Try.prog 50 S_escheatref03_Unpack := K_escheatref03_Unpack.sok
theorem S_escheatref03_Unpack_flat {n : Nat} {args : List Val} {h h2 : Heap} {v : Val} (he : R_escheatref03_Unpack n args (ro h) = some (v, h2)) (hf : v.flat = true) : S_escheatref03_Unpack args h = some (v, h) := K_escheatref03_Unpack.flat he hf
def escheatref03_Sort_o0 : List AOper := [{ dst := some 2, op := .nilrow 1 }]
def escheatref03_Sort_c0 : ACode := .ops escheatref03_Sort_o0
def escheatref03_Sort_o1 : List AOper := [{ dst := some 3, op := .nilrow 1 }]
def escheatref03_Sort_c1 : ACode := .ops escheatref03_Sort_o1
def escheatref03_Sort_o2 : List AOper := [{ dst := some 4, op := .mv (.v (.c (.b false))) }]
def escheatref03_Sort_c2 : ACode := .ops escheatref03_Sort_o2
def escheatref03_Sort_o3 : List AOper := [{ dst := some 5, op := .mv (.v (.c (.s []))) }]
def escheatref03_Sort_c3 : ACode := .ops escheatref03_Sort_o3
def escheatref03_Sort_o4 : List AOper := [{ dst := some 6, op := .mv (.v (.c (.i .i64 0))) }]
def escheatref03_Sort_c4 : ACode := .ops escheatref03_Sort_o4
def escheatref03_Sort_o5 : List AOper := [{ dst := some 7, op := .mv (.t 6) }, { dst := some 8, op := .mv (.t 0) }, { dst := some 9, op := .len (.t 8) }, { dst := some 10, op := .bin .lss (.t 7) (.t 9) }]
def escheatref03_Sort_c5 : ACode := .ops escheatref03_Sort_o5
def escheatref03_Sort_c6 : ACode := .cond (.t 10) .skip (.exit 2)
def escheatref03_Sort_c7 : ACode := .seq [0, 3, 4, 5, 6, 10] escheatref03_Sort_c5 escheatref03_Sort_c6
def escheatref03_Sort_o6 : List AOper := [{ dst := some 13, op := .mv (.t 3) }, { dst := some 14, op := .len (.t 13) }, { dst := some 15, op := .bin .gtr (.t 14) (.v (.c (.i .i64 0))) }, { dst := some 16, op := .mv (.t 15) }, { dst := some 17, op := .mv (.t 3), guard := some (16, true) }, { dst := some 18, op := .mv (.t 3), guard := some (16, true) }, { dst := some 19, op := .len (.t 18), guard := some (16, true) }, { dst := some 20, op := .bin .sub (.t 19) (.v (.c (.i .i64 1))), guard := some (16, true) }, { dst := some 21, op := .iAddrL 1 (.t 17) (.t 20), guard := some (16, true) }, { dst := some 22, op := .load1 (.t 21), guard := some (16, true) }, { dst := some 23, op := .mv (.t 0), guard := some (16, true) }, { dst := some 24, op := .mv (.t 6), guard := some (16, true) }, { dst := some 25, op := .iAddrL 1 (.t 23) (.t 24), guard := some (16, true) }, { dst := some 26, op := .load1 (.t 25), guard := some (16, true) }]
def escheatref03_Sort_o7 : List AOper := [{ dst := some 27, op := .call 45 [(.t 22), (.t 26)], guard := some (16, true) }, { dst := some 28, op := .un .not (.t 27), guard := some (16, true) }, { dst := some 29, op := .pick (.t 16) (.t 28) (.v (.c (.b false))) }]
def escheatref03_Sort_c8 : ACode := .draw 0 escheatref03_Sort_o6 escheatref03_Sort_o7
def escheatref03_Sort_c9 : ACode := .cond (.t 29) (.exit 3) .skip
def escheatref03_Sort_c10 : ACode := .seq [0, 3, 4, 5, 6, 29] escheatref03_Sort_c8 escheatref03_Sort_c9
def escheatref03_Sort_o8 : List AOper := [{ dst := some 30, op := .mv (.t 4) }, { dst := some 31, op := .un .not (.t 30) }, { dst := some 32, op := .mv (.t 31) }, { dst := some 33, op := .mv (.t 0), guard := some (32, false) }, { dst := some 34, op := .mv (.t 6), guard := some (32, false) }, { dst := some 35, op := .iAddrL 1 (.t 33) (.t 34), guard := some (32, false) }, { dst := some 36, op := .load1 (.t 35), guard := some (32, false) }, { dst := some 37, op := .mv (.t 5), guard := some (32, false) }, { dst := some 38, op := .call 45 [(.t 36), (.t 37)], guard := some (32, false) }, { dst := some 39, op := .pick (.t 32) (.v (.c (.b true))) (.t 38) }]
def escheatref03_Sort_c11 : ACode := .ops escheatref03_Sort_o8
def escheatref03_Sort_o9 : List AOper := [{ dst := some 40, op := .mv (.t 0) }, { dst := some 41, op := .mv (.t 6) }, { dst := some 42, op := .iAddrL 1 (.t 40) (.t 41) }, { dst := some 43, op := .load1 (.t 42) }, { dst := some 4, op := .mv (.v (.c (.b true))) }]
def escheatref03_Sort_o10 : List AOper := [{ dst := some 5, op := .mv (.t 43) }]
def escheatref03_Sort_c12 : ACode := .draw 0 escheatref03_Sort_o9 escheatref03_Sort_o10
def escheatref03_Sort_c13 : ACode := .cond (.t 39) escheatref03_Sort_c12 .skip
def escheatref03_Sort_c14 : ACode := .seq [0, 3, 4, 5, 6, 39] escheatref03_Sort_c11 escheatref03_Sort_c13
def escheatref03_Sort_c15 : ACode := .seq [0, 3, 4, 5, 6] escheatref03_Sort_c10 escheatref03_Sort_c14
def escheatref03_Sort_c16 : ACode := .block 3 escheatref03_Sort_c15
def escheatref03_Sort_o11 : List AOper := [{ dst := some 11, op := .mv (.t 6) }, { dst := some 12, op := .bin .add (.t 11) (.v (.c (.i .i64 1))) }, { dst := some 6, op := .mv (.t 12) }]
def escheatref03_Sort_c17 : ACode := .ops escheatref03_Sort_o11
def escheatref03_Sort_c18 : ACode := .seq [0, 3, 4, 5, 6] escheatref03_Sort_c16 escheatref03_Sort_c17
def escheatref03_Sort_c19 : ACode := .seq [0, 3, 4, 5, 6] escheatref03_Sort_c7 escheatref03_Sort_c18
def escheatref03_Sort_c20 : ACode := .loop [0, 3, 4, 5, 6] escheatref03_Sort_c19
def escheatref03_Sort_c21 : ACode := .block 2 escheatref03_Sort_c20
def escheatref03_Sort_c22 : ACode := .seq [0, 3, 4, 5, 6] escheatref03_Sort_c4 escheatref03_Sort_c21
def escheatref03_Sort_o12 : List AOper := [{ dst := some 44, op := .mv (.t 4) }, { dst := some 45, op := .un .not (.t 44) }]
def escheatref03_Sort_c23 : ACode := .ops escheatref03_Sort_o12
def escheatref03_Sort_o13 : List AOper := [{ dst := some 46, op := .mv (.t 3) }, { dst := some 2, op := .mv (.t 46) }]
def escheatref03_Sort_c24 : ACode := .ops escheatref03_Sort_o13
def escheatref03_Sort_c25 : ACode := .seq [2] escheatref03_Sort_c24 .ret
def escheatref03_Sort_c26 : ACode := .cond (.t 45) escheatref03_Sort_c25 .skip
def escheatref03_Sort_c27 : ACode := .seq [0, 3, 5, 45] escheatref03_Sort_c23 escheatref03_Sort_c26
def escheatref03_Sort_o14 : List AOper := [{ dst := some 47, op := .mv (.t 3) }, { dst := some 48, op := .mv (.t 5) }, { dst := some 49, op := .buildSl 1 1 ([.s []]) [(0, 1, (.t 48))] }, { dst := some 50, op := .app 1 (.t 47) (.t 49) }, { dst := some 3, op := .mv (.t 50) }]
def escheatref03_Sort_c28 : ACode := .ops escheatref03_Sort_o14
def escheatref03_Sort_c29 : ACode := .seq [0, 3, 5] escheatref03_Sort_c27 escheatref03_Sort_c28
def escheatref03_Sort_c30 : ACode := .seq [0, 3, 4, 5] escheatref03_Sort_c22 escheatref03_Sort_c29
def escheatref03_Sort_c31 : ACode := .seq [0, 3, 4, 5] escheatref03_Sort_c3 escheatref03_Sort_c30
def escheatref03_Sort_c32 : ACode := .seq [0, 3, 4] escheatref03_Sort_c2 escheatref03_Sort_c31
def escheatref03_Sort_c33 : ACode := .block 1 escheatref03_Sort_c32
def escheatref03_Sort_c34 : ACode := .loop [0, 3] escheatref03_Sort_c33
def escheatref03_Sort_c35 : ACode := .block 0 escheatref03_Sort_c34
def escheatref03_Sort_c36 : ACode := .seq [0, 3] escheatref03_Sort_c1 escheatref03_Sort_c35
def escheatref03_Sort_c37 : ACode := .seq [0] escheatref03_Sort_c0 escheatref03_Sort_c36
def A_escheatref03_Sort : AFn := ⟨escheatref03_Sort_c37, [.tmp 2]⟩
noncomputable def E_escheatref03_Sort : Sums := disp 45 S_escheatref03_Less disp0
noncomputable def escheatref03_Sort_c0_d (n : Nat) : SmV := smOps E_escheatref03_Sort escheatref03_Sort_o0
noncomputable def escheatref03_Sort_c1_d (n : Nat) : SmV := smOps E_escheatref03_Sort escheatref03_Sort_o1
noncomputable def escheatref03_Sort_c2_d (n : Nat) : SmV := smOps E_escheatref03_Sort escheatref03_Sort_o2
noncomputable def escheatref03_Sort_c3_d (n : Nat) : SmV := smOps E_escheatref03_Sort escheatref03_Sort_o3
noncomputable def escheatref03_Sort_c4_d (n : Nat) : SmV := smOps E_escheatref03_Sort escheatref03_Sort_o4
noncomputable def escheatref03_Sort_c5_d (n : Nat) : SmV := smOps E_escheatref03_Sort escheatref03_Sort_o5
noncomputable def escheatref03_Sort_c6_d (n : Nat) : SmV := smCond (.t 10) smSkip (smExit 2)
noncomputable def escheatref03_Sort_c7_d (n : Nat) : SmV := smSeq [0, 3, 4, 5, 6, 10] (escheatref03_Sort_c5_d n) (escheatref03_Sort_c6_d n)
noncomputable def escheatref03_Sort_c8_d (n : Nat) : SmV := smDraw E_escheatref03_Sort 0 escheatref03_Sort_o6 escheatref03_Sort_o7
noncomputable def escheatref03_Sort_c9_d (n : Nat) : SmV := smCond (.t 29) (smExit 3) smSkip
noncomputable def escheatref03_Sort_c10_d (n : Nat) : SmV := smSeq [0, 3, 4, 5, 6, 29] (escheatref03_Sort_c8_d n) (escheatref03_Sort_c9_d n)
noncomputable def escheatref03_Sort_c11_d (n : Nat) : SmV := smOps E_escheatref03_Sort escheatref03_Sort_o8
noncomputable def escheatref03_Sort_c12_d (n : Nat) : SmV := smDraw E_escheatref03_Sort 0 escheatref03_Sort_o9 escheatref03_Sort_o10
noncomputable def escheatref03_Sort_c13_d (n : Nat) : SmV := smCond (.t 39) (escheatref03_Sort_c12_d n) smSkip
noncomputable def escheatref03_Sort_c14_d (n : Nat) : SmV := smSeq [0, 3, 4, 5, 6, 39] (escheatref03_Sort_c11_d n) (escheatref03_Sort_c13_d n)
noncomputable def escheatref03_Sort_c15_d (n : Nat) : SmV := smSeq [0, 3, 4, 5, 6] (escheatref03_Sort_c10_d n) (escheatref03_Sort_c14_d n)
noncomputable def escheatref03_Sort_c16_d (n : Nat) : SmV := smBlock 3 (escheatref03_Sort_c15_d n)
noncomputable def escheatref03_Sort_c17_d (n : Nat) : SmV := smOps E_escheatref03_Sort escheatref03_Sort_o11
noncomputable def escheatref03_Sort_c18_d (n : Nat) : SmV := smSeq [0, 3, 4, 5, 6] (escheatref03_Sort_c16_d n) (escheatref03_Sort_c17_d n)
noncomputable def escheatref03_Sort_c19_d (n : Nat) : SmV := smSeq [0, 3, 4, 5, 6] (escheatref03_Sort_c7_d n) (escheatref03_Sort_c18_d n)
noncomputable def escheatref03_Sort_c20_d (n : Nat) : SmV := smLoop n [0, 3, 4, 5, 6] (escheatref03_Sort_c19_d n)
noncomputable def escheatref03_Sort_c21_d (n : Nat) : SmV := smBlock 2 (escheatref03_Sort_c20_d n)
noncomputable def escheatref03_Sort_c22_d (n : Nat) : SmV := smSeq [0, 3, 4, 5, 6] (escheatref03_Sort_c4_d n) (escheatref03_Sort_c21_d n)
noncomputable def escheatref03_Sort_c23_d (n : Nat) : SmV := smOps E_escheatref03_Sort escheatref03_Sort_o12
noncomputable def escheatref03_Sort_c24_d (n : Nat) : SmV := smOps E_escheatref03_Sort escheatref03_Sort_o13
noncomputable def escheatref03_Sort_c25_d (n : Nat) : SmV := smSeq [2] (escheatref03_Sort_c24_d n) smRet
noncomputable def escheatref03_Sort_c26_d (n : Nat) : SmV := smCond (.t 45) (escheatref03_Sort_c25_d n) smSkip
noncomputable def escheatref03_Sort_c27_d (n : Nat) : SmV := smSeq [0, 3, 5, 45] (escheatref03_Sort_c23_d n) (escheatref03_Sort_c26_d n)
noncomputable def escheatref03_Sort_c28_d (n : Nat) : SmV := smOps E_escheatref03_Sort escheatref03_Sort_o14
noncomputable def escheatref03_Sort_c29_d (n : Nat) : SmV := smSeq [0, 3, 5] (escheatref03_Sort_c27_d n) (escheatref03_Sort_c28_d n)
noncomputable def escheatref03_Sort_c30_d (n : Nat) : SmV := smSeq [0, 3, 4, 5] (escheatref03_Sort_c22_d n) (escheatref03_Sort_c29_d n)
noncomputable def escheatref03_Sort_c31_d (n : Nat) : SmV := smSeq [0, 3, 4, 5] (escheatref03_Sort_c3_d n) (escheatref03_Sort_c30_d n)
noncomputable def escheatref03_Sort_c32_d (n : Nat) : SmV := smSeq [0, 3, 4] (escheatref03_Sort_c2_d n) (escheatref03_Sort_c31_d n)
noncomputable def escheatref03_Sort_c33_d (n : Nat) : SmV := smBlock 1 (escheatref03_Sort_c32_d n)
noncomputable def escheatref03_Sort_c34_d (n : Nat) : SmV := smLoop n [0, 3] (escheatref03_Sort_c33_d n)
noncomputable def escheatref03_Sort_c35_d (n : Nat) : SmV := smBlock 0 (escheatref03_Sort_c34_d n)
noncomputable def escheatref03_Sort_c36_d (n : Nat) : SmV := smSeq [0, 3] (escheatref03_Sort_c1_d n) (escheatref03_Sort_c35_d n)
noncomputable def escheatref03_Sort_c37_d (n : Nat) : SmV := smSeq [0] (escheatref03_Sort_c0_d n) (escheatref03_Sort_c36_d n)
noncomputable def escheatref03_Sort_k0 (n : Nat) : AExit → Env → Heap → OptV := fun x e h => match x with | .exit i => bif Nat.beq i 0 then A_escheatref03_Sort.fin .normal e h else A_escheatref03_Sort.fin (.exit i) e h | .normal => A_escheatref03_Sort.fin .normal e h | .ret => A_escheatref03_Sort.fin .ret e h
noncomputable def escheatref03_Sort_l0 (n m : Nat) (x0 x3 : Val) (h : Heap) : OptV := around (escheatref03_Sort_c33_d n) [0, 3] (escheatref03_Sort_k0 n) m [(0, x0), (3, x3)] h
noncomputable def R_escheatref03_Sort (n : Nat) (args : List Val) (h : Heap) : OptV := (escheatref03_Sort_c37_d n) A_escheatref03_Sort.fin (params 0 args) h
noncomputable def escheatref03_Sort_k1 (n m : Nat) : AExit → Env → Heap → OptV := fun x e h => match x with | .normal => around (escheatref03_Sort_c33_d n) [0, 3] (escheatref03_Sort_k0 n) m (e.keep [0, 3]) h | .exit id => (escheatref03_Sort_k0 n) (.exit id) e h | .ret => (escheatref03_Sort_k0 n) .ret e h
noncomputable def escheatref03_Sort_k2 (n m : Nat) : AExit → Env → Heap → OptV := fun x e h => match x with | .exit i => bif Nat.beq i 1 then (escheatref03_Sort_k1 n m) .normal e h else (escheatref03_Sort_k1 n m) (.exit i) e h | .normal => (escheatref03_Sort_k1 n m) .normal e h | .ret => (escheatref03_Sort_k1 n m) .ret e h
noncomputable def escheatref03_Sort_k3 (n m : Nat) : AExit → Env → Heap → OptV := fun x e h => match x with | .normal => hold ((escheatref03_Sort_c29_d n) (escheatref03_Sort_k2 n m) (e.keep [0, 3, 4, 5]) h) | .exit id => (escheatref03_Sort_k2 n m) (.exit id) e h | .ret => (escheatref03_Sort_k2 n m) .ret e h
noncomputable def escheatref03_Sort_k4 (n m : Nat) : AExit → Env → Heap → OptV := fun x e h => match x with | .exit i => bif Nat.beq i 2 then (escheatref03_Sort_k3 n m) .normal e h else (escheatref03_Sort_k3 n m) (.exit i) e h | .normal => (escheatref03_Sort_k3 n m) .normal e h | .ret => (escheatref03_Sort_k3 n m) .ret e h
noncomputable def escheatref03_Sort_l1 (n m m2 : Nat) (x0 x3 x4 x5 x6 : Val) (h : Heap) : OptV := around (escheatref03_Sort_c19_d n) [0, 3, 4, 5, 6] (escheatref03_Sort_k4 n m) m2 [(0, x0), (3, x3), (4, x4), (5, x5), (6, x6)] h
noncomputable def escheatref03_Sort_k5 (n m m2 : Nat) : AExit → Env → Heap → OptV := fun x e h => match x with | .normal => around (escheatref03_Sort_c19_d n) [0, 3, 4, 5, 6] (escheatref03_Sort_k4 n m) m2 (e.keep [0, 3, 4, 5, 6]) h | .exit id => (escheatref03_Sort_k4 n m) (.exit id) e h | .ret => (escheatref03_Sort_k4 n m) .ret e h
noncomputable def escheatref03_Sort_j0 (n m m2 : Nat) (x0 x3 x4 x5 x6 : Val) (h : Heap) : OptV := hold ((escheatref03_Sort_c17_d n) (escheatref03_Sort_k5 n m m2) [(0, x0), (3, x3), (4, x4), (5, x5), (6, x6)] h)
theorem R_escheatref03_Sort_eq (n : Nat) (a0 : Val) (h : Heap) : R_escheatref03_Sort n [a0] h = escheatref03_Sort_l0 n n a0 ((.c (.sl ((h ++ [some (Row.mk ([]) true)])).length 0 0 1))) (((h ++ [some (Row.mk ([]) true)]) ++ [some (Row.mk ([]) true)])) := by kernel_rfl
theorem escheatref03_Sort_l0_eq (n m : Nat) (x0 x3 : Val) (h : Heap) : escheatref03_Sort_l0 n (m + 1) x0 x3 h = escheatref03_Sort_l1 n m n x0 x3 (.c (.b false)) (.c (.s [])) (.c (.i .i64 0)) h := by kernel_rfl
theorem escheatref03_Sort_l1_eq (n m m2 : Nat) (x0 x3 x4 x5 x6 : Val) (h : Heap) : escheatref03_Sort_l1 n m (m2 + 1) x0 x3 x4 x5 x6 h = bnd (alen x0) fun v1 => bnd (abin .lss x6 v1) fun v2 => cnd v2 (bnd (alen x3) fun v3 => bnd (abin .gtr v3 (.c (.i .i64 0))) fun v4 => bnd (gd v4 true (some (x3, (h ++ []))) (some (.no, (h ++ [])))) fun p5 => bnd (gd v4 true (some (x3, p5.2)) (some (.no, p5.2))) fun p6 => bnd (gd v4 true (bnd (alen p6.1) fun v7 => some (v7, p6.2)) (some (.no, p6.2))) fun p8 => bnd (gd v4 true (bnd (abin .sub p8.1 (.c (.i .i64 1))) fun v9 => some (v9, p8.2)) (some (.no, p8.2))) fun p10 => bnd (gd v4 true (bnd (aiAddrL 1 p5.1 p10.1) fun v11 => some (v11, p10.2)) (some (.no, p10.2))) fun p12 => bnd (gd v4 true (bnd (aload1 h p12.1) fun v13 => some (v13, p12.2)) (some (.no, p12.2))) fun p14 => bnd (gd v4 true (some (x0, p14.2)) (some (.no, p14.2))) fun p15 => bnd (gd v4 true (some (x6, p15.2)) (some (.no, p15.2))) fun p16 => bnd (gd v4 true (bnd (aiAddrL 1 p15.1 p16.1) fun v17 => some (v17, p16.2)) (some (.no, p16.2))) fun p18 => bnd (gd v4 true (bnd (aload1 h p18.1) fun v19 => some (v19, p18.2)) (some (.no, p18.2))) fun p20 => bnd (gd v4 true (bnd (S_escheatref03_Less [p14.1, p20.1] p20.2) fun p21 => some (p21.1, p21.2)) (some (.no, p20.2))) fun p22 => bnd (gd v4 true (bnd (aun .not p22.1) fun v23 => some (v23, p22.2)) (some (.no, p22.2))) fun p24 => bnd (apick v4 p24.1 (.c (.b false))) fun v25 => cnd v25 (escheatref03_Sort_j0 n m m2 x0 x3 x4 x5 x6 p24.2) (bnd (aun .not x4) fun v26 => bnd (gd v26 false (some (x0, p24.2)) (some (.no, p24.2))) fun p27 => bnd (gd v26 false (some (x6, p27.2)) (some (.no, p27.2))) fun p28 => bnd (gd v26 false (bnd (aiAddrL 1 p27.1 p28.1) fun v29 => some (v29, p28.2)) (some (.no, p28.2))) fun p30 => bnd (gd v26 false (bnd (aload1 p30.2 p30.1) fun v31 => some (v31, p30.2)) (some (.no, p30.2))) fun p32 => bnd (gd v26 false (some (x5, p32.2)) (some (.no, p32.2))) fun p33 => bnd (gd v26 false (bnd (S_escheatref03_Less [p32.1, p33.1] p33.2) fun p34 => some (p34.1, p34.2)) (some (.no, p33.2))) fun p35 => bnd (apick v26 (.c (.b true)) p35.1) fun v36 => cnd v36 (bnd (aiAddrL 1 x0 x6) fun v37 => bnd (aload1 p35.2 v37) fun v38 => escheatref03_Sort_j0 n m m2 x0 x3 (.c (.b true)) v38 x6 ((p35.2 ++ []))) (escheatref03_Sort_j0 n m m2 x0 x3 x4 x5 x6 p35.2))) (bnd (aun .not x4) fun v39 => cnd v39 (some (x3, h)) (bnd (afill ([.s []]) [(0, 1, x5)]) fun c40 => bnd (aapp ((h ++ [some (Row.mk (c40) true)])) 1 x3 ((.c (.sl h.length 0 1 1)))) fun p41 => escheatref03_Sort_l0 n m x0 p41.1 p41.2)) := by kernel_rfl
theorem escheatref03_Sort_j0_eq (n m m2 : Nat) (x0 x3 x4 x5 x6 : Val) (h : Heap) : escheatref03_Sort_j0 n m m2 x0 x3 x4 x5 x6 h = bnd (abin .add x6 (.c (.i .i64 1))) fun v42 => escheatref03_Sort_l1 n m m2 x0 x3 x4 x5 v42 h := by kernel_rfl
theorem K_escheatref03_Sort : FnK Try.prog 74 A_escheatref03_Sort E_escheatref03_Sort R_escheatref03_Sort := .mk' (sound1 S_escheatref03_Less_ok sound0) Try.func74 (by kernel_rfl) (by intro n args h; kernel_rfl)
noncomputable def S_escheatref03_Sort : Fun := tidy (Lim A_escheatref03_Sort E_escheatref03_Sort)
theorem S_escheatref03_Sort_ok : SOk Try.prog 74 S_escheatref03_Sort := K_escheatref03_Sort.sok
theorem S_escheatref03_Sort_low {n : Nat} {args : List Val} {h h2 : Heap} {v : Val} (he : R_escheatref03_Sort n args (ro h) = some (v, h2)) (hf : v.low h.length = true) : S_escheatref03_Sort args h = some (v, h) := K_escheatref03_Sort.low he hf
theorem S_escheatref03_Sort_out {n : Nat} {args : List Val} {h h2 : Heap} {v : Val} {sz k : Nat} {cs : List Cell} (he : R_escheatref03_Sort n args (ro h) = some (v, h2)) (ho : Out h.length h2 v sz k cs) (hf : flats cs = true) : S_escheatref03_Sort args h = some (.c (.sl h.length 0 k sz), h ++ [some ⟨cs, true⟩]) := K_escheatref03_Sort.out he ho hf
def escheatref03_Fewer_o0 : List AOper := [{ dst := some 4, op := .mv (.v (.c (.i .i64 0))) }, { dst := some 5, op := .mv (.v (.c (.b false))) }]
def escheatref03_Fewer_c0 : ACode := .ops escheatref03_Fewer_o0
def escheatref03_Fewer_o1 : List AOper := [{ dst := some 6, op := .mv (.v (.c (.i .i64 0))) }, { dst := some 7, op := .mv (.v (.c (.b false))) }]
def escheatref03_Fewer_c1 : ACode := .ops escheatref03_Fewer_o1
def escheatref03_Fewer_o2 : List AOper := [{ dst := some 8, op := .mv (.v (.c (.i .i64 0))) }]
def escheatref03_Fewer_c2 : ACode := .ops escheatref03_Fewer_o2
def escheatref03_Fewer_o3 : List AOper := [{ dst := some 9, op := .mv (.t 8) }, { dst := some 10, op := .mv (.t 0) }, { dst := some 11, op := .len (.t 10) }, { dst := some 12, op := .bin .lss (.t 9) (.t 11) }]
def escheatref03_Fewer_c3 : ACode := .ops escheatref03_Fewer_o3
def escheatref03_Fewer_c4 : ACode := .cond (.t 12) .skip (.exit 0)
def escheatref03_Fewer_c5 : ACode := .seq [0, 1, 6, 7, 8, 12] escheatref03_Fewer_c3 escheatref03_Fewer_c4
def escheatref03_Fewer_o4 : List AOper := [{ dst := some 15, op := .mv (.t 0) }, { dst := some 16, op := .mv (.t 8) }, { dst := some 17, op := .iAddrL 1 (.t 15) (.t 16) }, { dst := some 18, op := .load1 (.t 17) }, { dst := some 19, op := .mv (.t 1) }, { dst := some 20, op := .call 45 [(.t 18), (.t 19)] }]
def escheatref03_Fewer_c6 : ACode := .ops escheatref03_Fewer_o4
def escheatref03_Fewer_o5 : List AOper := [{ dst := some 21, op := .mv (.t 6) }, { dst := some 22, op := .bin .add (.t 21) (.v (.c (.i .i64 1))) }, { dst := some 6, op := .mv (.t 22) }]
def escheatref03_Fewer_c7 : ACode := .ops escheatref03_Fewer_o5
def escheatref03_Fewer_c8 : ACode := .cond (.t 20) escheatref03_Fewer_c7 .skip
def escheatref03_Fewer_c9 : ACode := .seq [0, 1, 6, 7, 8, 20] escheatref03_Fewer_c6 escheatref03_Fewer_c8
def escheatref03_Fewer_o6 : List AOper := [{ dst := some 23, op := .mv (.t 7) }, { dst := some 24, op := .mv (.t 23) }, { dst := some 25, op := .mv (.t 0), guard := some (24, false) }, { dst := some 26, op := .mv (.t 8), guard := some (24, false) }, { dst := some 27, op := .iAddrL 1 (.t 25) (.t 26), guard := some (24, false) }, { dst := some 28, op := .load1 (.t 27), guard := some (24, false) }, { dst := some 29, op := .mv (.t 1), guard := some (24, false) }, { dst := some 30, op := .bin .eql (.t 28) (.t 29), guard := some (24, false) }, { dst := some 31, op := .pick (.t 24) (.v (.c (.b true))) (.t 30) }, { dst := some 7, op := .mv (.t 31) }]
def escheatref03_Fewer_c10 : ACode := .ops escheatref03_Fewer_o6
def escheatref03_Fewer_c11 : ACode := .seq [0, 1, 6, 7, 8] escheatref03_Fewer_c9 escheatref03_Fewer_c10
def escheatref03_Fewer_c12 : ACode := .block 1 escheatref03_Fewer_c11
def escheatref03_Fewer_o7 : List AOper := [{ dst := some 13, op := .mv (.t 8) }, { dst := some 14, op := .bin .add (.t 13) (.v (.c (.i .i64 1))) }, { dst := some 8, op := .mv (.t 14) }]
def escheatref03_Fewer_c13 : ACode := .ops escheatref03_Fewer_o7
def escheatref03_Fewer_c14 : ACode := .seq [0, 1, 6, 7, 8] escheatref03_Fewer_c12 escheatref03_Fewer_c13
def escheatref03_Fewer_c15 : ACode := .seq [0, 1, 6, 7, 8] escheatref03_Fewer_c5 escheatref03_Fewer_c14
def escheatref03_Fewer_c16 : ACode := .loop [0, 1, 6, 7, 8] escheatref03_Fewer_c15
def escheatref03_Fewer_c17 : ACode := .block 0 escheatref03_Fewer_c16
def escheatref03_Fewer_c18 : ACode := .seq [0, 1, 6, 7, 8] escheatref03_Fewer_c2 escheatref03_Fewer_c17
def escheatref03_Fewer_o8 : List AOper := [{ dst := some 32, op := .mv (.t 6) }, { dst := some 33, op := .mv (.t 7) }, { dst := some 4, op := .mv (.t 32) }, { dst := some 5, op := .mv (.t 33) }]
def escheatref03_Fewer_c19 : ACode := .ops escheatref03_Fewer_o8
def escheatref03_Fewer_c20 : ACode := .seq [4, 5] escheatref03_Fewer_c19 .ret
def escheatref03_Fewer_c21 : ACode := .seq [6, 7] escheatref03_Fewer_c18 escheatref03_Fewer_c20
def escheatref03_Fewer_c22 : ACode := .seq [0, 1, 6, 7] escheatref03_Fewer_c1 escheatref03_Fewer_c21
def escheatref03_Fewer_c23 : ACode := .seq [0, 1] escheatref03_Fewer_c0 escheatref03_Fewer_c22
def A_escheatref03_Fewer : AFn := ⟨escheatref03_Fewer_c23, [.tmp 4, .tmp 5]⟩
noncomputable def E_escheatref03_Fewer : Sums := disp 45 S_escheatref03_Less disp0
noncomputable def escheatref03_Fewer_c0_d (n : Nat) : SmV := smOps E_escheatref03_Fewer escheatref03_Fewer_o0
noncomputable def escheatref03_Fewer_c1_d (n : Nat) : SmV := smOps E_escheatref03_Fewer escheatref03_Fewer_o1
noncomputable def escheatref03_Fewer_c2_d (n : Nat) : SmV := smOps E_escheatref03_Fewer escheatref03_Fewer_o2
noncomputable def escheatref03_Fewer_c3_d (n : Nat) : SmV := smOps E_escheatref03_Fewer escheatref03_Fewer_o3
noncomputable def escheatref03_Fewer_c4_d (n : Nat) : SmV := smCond (.t 12) smSkip (smExit 0)
noncomputable def escheatref03_Fewer_c5_d (n : Nat) : SmV := smSeq [0, 1, 6, 7, 8, 12] (escheatref03_Fewer_c3_d n) (escheatref03_Fewer_c4_d n)
noncomputable def escheatref03_Fewer_c6_d (n : Nat) : SmV := smOps E_escheatref03_Fewer escheatref03_Fewer_o4
noncomputable def escheatref03_Fewer_c7_d (n : Nat) : SmV := smOps E_escheatref03_Fewer escheatref03_Fewer_o5
noncomputable def escheatref03_Fewer_c8_d (n : Nat) : SmV := smCond (.t 20) (escheatref03_Fewer_c7_d n) smSkip
noncomputable def escheatref03_Fewer_c9_d (n : Nat) : SmV := smSeq [0, 1, 6, 7, 8, 20] (escheatref03_Fewer_c6_d n) (escheatref03_Fewer_c8_d n)
noncomputable def escheatref03_Fewer_c10_d (n : Nat) : SmV := smOps E_escheatref03_Fewer escheatref03_Fewer_o6
noncomputable def escheatref03_Fewer_c11_d (n : Nat) : SmV := smSeq [0, 1, 6, 7, 8] (escheatref03_Fewer_c9_d n) (escheatref03_Fewer_c10_d n)
noncomputable def escheatref03_Fewer_c12_d (n : Nat) : SmV := smBlock 1 (escheatref03_Fewer_c11_d n)
noncomputable def escheatref03_Fewer_c13_d (n : Nat) : SmV := smOps E_escheatref03_Fewer escheatref03_Fewer_o7
noncomputable def escheatref03_Fewer_c14_d (n : Nat) : SmV := smSeq [0, 1, 6, 7, 8] (escheatref03_Fewer_c12_d n) (escheatref03_Fewer_c13_d n)
noncomputable def escheatref03_Fewer_c15_d (n : Nat) : SmV := smSeq [0, 1, 6, 7, 8] (escheatref03_Fewer_c5_d n) (escheatref03_Fewer_c14_d n)
noncomputable def escheatref03_Fewer_c16_d (n : Nat) : SmV := smLoop n [0, 1, 6, 7, 8] (escheatref03_Fewer_c15_d n)
noncomputable def escheatref03_Fewer_c17_d (n : Nat) : SmV := smBlock 0 (escheatref03_Fewer_c16_d n)
noncomputable def escheatref03_Fewer_c18_d (n : Nat) : SmV := smSeq [0, 1, 6, 7, 8] (escheatref03_Fewer_c2_d n) (escheatref03_Fewer_c17_d n)
noncomputable def escheatref03_Fewer_c19_d (n : Nat) : SmV := smOps E_escheatref03_Fewer escheatref03_Fewer_o8
noncomputable def escheatref03_Fewer_c20_d (n : Nat) : SmV := smSeq [4, 5] (escheatref03_Fewer_c19_d n) smRet
noncomputable def escheatref03_Fewer_c21_d (n : Nat) : SmV := smSeq [6, 7] (escheatref03_Fewer_c18_d n) (escheatref03_Fewer_c20_d n)
noncomputable def escheatref03_Fewer_c22_d (n : Nat) : SmV := smSeq [0, 1, 6, 7] (escheatref03_Fewer_c1_d n) (escheatref03_Fewer_c21_d n)
noncomputable def escheatref03_Fewer_c23_d (n : Nat) : SmV := smSeq [0, 1] (escheatref03_Fewer_c0_d n) (escheatref03_Fewer_c22_d n)
noncomputable def escheatref03_Fewer_k0 (n : Nat) : AExit → Env → Heap → OptV := fun x e h => match x with | .normal => hold ((escheatref03_Fewer_c20_d n) A_escheatref03_Fewer.fin (e.keep [6, 7]) h) | .exit id => A_escheatref03_Fewer.fin (.exit id) e h | .ret => A_escheatref03_Fewer.fin .ret e h
noncomputable def escheatref03_Fewer_k1 (n : Nat) : AExit → Env → Heap → OptV := fun x e h => match x with | .exit i => bif Nat.beq i 0 then (escheatref03_Fewer_k0 n) .normal e h else (escheatref03_Fewer_k0 n) (.exit i) e h | .normal => (escheatref03_Fewer_k0 n) .normal e h | .ret => (escheatref03_Fewer_k0 n) .ret e h
noncomputable def escheatref03_Fewer_l0 (n m : Nat) (x0 x1 x6 x7 x8 : Val) (h : Heap) : OptV := around (escheatref03_Fewer_c15_d n) [0, 1, 6, 7, 8] (escheatref03_Fewer_k1 n) m [(0, x0), (1, x1), (6, x6), (7, x7), (8, x8)] h
noncomputable def R_escheatref03_Fewer (n : Nat) (args : List Val) (h : Heap) : OptV := (escheatref03_Fewer_c23_d n) A_escheatref03_Fewer.fin (params 0 args) h
noncomputable def escheatref03_Fewer_k2 (n m : Nat) : AExit → Env → Heap → OptV := fun x e h => match x with | .normal => around (escheatref03_Fewer_c15_d n) [0, 1, 6, 7, 8] (escheatref03_Fewer_k1 n) m (e.keep [0, 1, 6, 7, 8]) h | .exit id => (escheatref03_Fewer_k1 n) (.exit id) e h | .ret => (escheatref03_Fewer_k1 n) .ret e h
noncomputable def escheatref03_Fewer_k3 (n m : Nat) : AExit → Env → Heap → OptV := fun x e h => match x with | .normal => hold ((escheatref03_Fewer_c13_d n) (escheatref03_Fewer_k2 n m) (e.keep [0, 1, 6, 7, 8]) h) | .exit id => (escheatref03_Fewer_k2 n m) (.exit id) e h | .ret => (escheatref03_Fewer_k2 n m) .ret e h
noncomputable def escheatref03_Fewer_k4 (n m : Nat) : AExit → Env → Heap → OptV := fun x e h => match x with | .exit i => bif Nat.beq i 1 then (escheatref03_Fewer_k3 n m) .normal e h else (escheatref03_Fewer_k3 n m) (.exit i) e h | .normal => (escheatref03_Fewer_k3 n m) .normal e h | .ret => (escheatref03_Fewer_k3 n m) .ret e h
noncomputable def escheatref03_Fewer_j0 (n m : Nat) (x0 x1 x6 x7 x8 : Val) (h : Heap) : OptV := hold ((escheatref03_Fewer_c10_d n) (escheatref03_Fewer_k4 n m) [(0, x0), (1, x1), (6, x6), (7, x7), (8, x8)] h)
theorem R_escheatref03_Fewer_eq (n : Nat) (a0 a1 : Val) (h : Heap) : R_escheatref03_Fewer n [a0, a1] h = escheatref03_Fewer_l0 n n a0 a1 (.c (.i .i64 0)) (.c (.b false)) (.c (.i .i64 0)) h := by kernel_rfl
theorem escheatref03_Fewer_l0_eq (n m : Nat) (x0 x1 x6 x7 x8 : Val) (h : Heap) : escheatref03_Fewer_l0 n (m + 1) x0 x1 x6 x7 x8 h = bnd (alen x0) fun v1 => bnd (abin .lss x8 v1) fun v2 => cnd v2 (bnd (aiAddrL 1 x0 x8) fun v3 => bnd (aload1 h v3) fun v4 => bnd (S_escheatref03_Less [v4, x1] h) fun p5 => cnd p5.1 (bnd (abin .add x6 (.c (.i .i64 1))) fun v6 => escheatref03_Fewer_j0 n m x0 x1 v6 x7 x8 p5.2) (escheatref03_Fewer_j0 n m x0 x1 x6 x7 x8 p5.2)) (tupN [some x6, some x7] h) := by kernel_rfl
theorem escheatref03_Fewer_j0_eq (n m : Nat) (x0 x1 x6 x7 x8 : Val) (h : Heap) : escheatref03_Fewer_j0 n m x0 x1 x6 x7 x8 h = bnd (gd x7 false (some (x0, h)) (some (.no, h))) fun p7 => bnd (gd x7 false (some (x8, p7.2)) (some (.no, p7.2))) fun p8 => bnd (gd x7 false (bnd (aiAddrL 1 p7.1 p8.1) fun v9 => some (v9, p8.2)) (some (.no, p8.2))) fun p10 => bnd (gd x7 false (bnd (aload1 p10.2 p10.1) fun v11 => some (v11, p10.2)) (some (.no, p10.2))) fun p12 => bnd (gd x7 false (some (x1, p12.2)) (some (.no, p12.2))) fun p13 => bnd (gd x7 false (bnd (abin .eql p12.1 p13.1) fun v14 => some (v14, p13.2)) (some (.no, p13.2))) fun p15 => bnd (apick x7 (.c (.b true)) p15.1) fun v16 => bnd (abin .add x8 (.c (.i .i64 1))) fun v17 => escheatref03_Fewer_l0 n m x0 x1 x6 v16 v17 p15.2 := by kernel_rfl
theorem K_escheatref03_Fewer : FnK Try.prog 77 A_escheatref03_Fewer E_escheatref03_Fewer R_escheatref03_Fewer := .mk' (sound1 S_escheatref03_Less_ok sound0) Try.func77 (by kernel_rfl) (by intro n args h; kernel_rfl)
noncomputable def S_escheatref03_Fewer : Fun := tidy (Lim A_escheatref03_Fewer E_escheatref03_Fewer)
theorem S_escheatref03_Fewer_ok : SOk Try.prog 77 S_escheatref03_Fewer := K_escheatref03_Fewer.sok
theorem S_escheatref03_Fewer_flat {n : Nat} {args : List Val} {h h2 : Heap} {v : Val} (he : R_escheatref03_Fewer n args (ro h) = some (v, h2)) (hf : v.flat = true) : S_escheatref03_Fewer args h = some (v, h) := K_escheatref03_Fewer.flat he hf
def escheatref03_Rise_o0 : List AOper := [{ dst := some 2, op := .mv (.v (.c (.b false))) }]
def escheatref03_Rise_c0 : ACode := .ops escheatref03_Rise_o0
def escheatref03_Rise_o1 : List AOper := [{ dst := some 3, op := .mv (.v (.c (.i .i64 1))) }]
def escheatref03_Rise_c1 : ACode := .ops escheatref03_Rise_o1
def escheatref03_Rise_o2 : List AOper := [{ dst := some 4, op := .mv (.t 3) }, { dst := some 5, op := .mv (.t 0) }, { dst := some 6, op := .len (.t 5) }, { dst := some 7, op := .bin .lss (.t 4) (.t 6) }]
def escheatref03_Rise_c2 : ACode := .ops escheatref03_Rise_o2
def escheatref03_Rise_c3 : ACode := .cond (.t 7) .skip (.exit 0)
def escheatref03_Rise_c4 : ACode := .seq [0, 3, 7] escheatref03_Rise_c2 escheatref03_Rise_c3
def escheatref03_Rise_o3 : List AOper := [{ dst := some 10, op := .mv (.t 0) }, { dst := some 11, op := .mv (.t 3) }, { dst := some 12, op := .bin .sub (.t 11) (.v (.c (.i .i64 1))) }, { dst := some 13, op := .iAddrL 1 (.t 10) (.t 12) }, { dst := some 14, op := .load1 (.t 13) }, { dst := some 15, op := .mv (.t 0) }, { dst := some 16, op := .mv (.t 3) }, { dst := some 17, op := .iAddrL 1 (.t 15) (.t 16) }, { dst := some 18, op := .load1 (.t 17) }]
def escheatref03_Rise_o4 : List AOper := [{ dst := some 19, op := .call 45 [(.t 14), (.t 18)] }, { dst := some 20, op := .un .not (.t 19) }]
def escheatref03_Rise_c5 : ACode := .draw 0 escheatref03_Rise_o3 escheatref03_Rise_o4
def escheatref03_Rise_o5 : List AOper := [{ dst := some 2, op := .mv (.v (.c (.b false))) }]
def escheatref03_Rise_c6 : ACode := .ops escheatref03_Rise_o5
def escheatref03_Rise_c7 : ACode := .seq [2] escheatref03_Rise_c6 .ret
def escheatref03_Rise_c8 : ACode := .cond (.t 20) escheatref03_Rise_c7 .skip
def escheatref03_Rise_c9 : ACode := .seq [0, 3, 20] escheatref03_Rise_c5 escheatref03_Rise_c8
def escheatref03_Rise_c10 : ACode := .block 1 escheatref03_Rise_c9
def escheatref03_Rise_o6 : List AOper := [{ dst := some 8, op := .mv (.t 3) }, { dst := some 9, op := .bin .add (.t 8) (.v (.c (.i .i64 1))) }, { dst := some 3, op := .mv (.t 9) }]
def escheatref03_Rise_c11 : ACode := .ops escheatref03_Rise_o6
def escheatref03_Rise_c12 : ACode := .seq [0, 3] escheatref03_Rise_c10 escheatref03_Rise_c11
def escheatref03_Rise_c13 : ACode := .seq [0, 3] escheatref03_Rise_c4 escheatref03_Rise_c12
def escheatref03_Rise_c14 : ACode := .loop [0, 3] escheatref03_Rise_c13
def escheatref03_Rise_c15 : ACode := .block 0 escheatref03_Rise_c14
def escheatref03_Rise_c16 : ACode := .seq [0, 3] escheatref03_Rise_c1 escheatref03_Rise_c15
def escheatref03_Rise_o7 : List AOper := [{ dst := some 2, op := .mv (.v (.c (.b true))) }]
def escheatref03_Rise_c17 : ACode := .ops escheatref03_Rise_o7
def escheatref03_Rise_c18 : ACode := .seq [2] escheatref03_Rise_c17 .ret
def escheatref03_Rise_c19 : ACode := .seq [] escheatref03_Rise_c16 escheatref03_Rise_c18
def escheatref03_Rise_c20 : ACode := .seq [0] escheatref03_Rise_c0 escheatref03_Rise_c19
def A_escheatref03_Rise : AFn := ⟨escheatref03_Rise_c20, [.tmp 2]⟩
noncomputable def E_escheatref03_Rise : Sums := disp 45 S_escheatref03_Less disp0
noncomputable def escheatref03_Rise_c0_d (n : Nat) : SmV := smOps E_escheatref03_Rise escheatref03_Rise_o0
noncomputable def escheatref03_Rise_c1_d (n : Nat) : SmV := smOps E_escheatref03_Rise escheatref03_Rise_o1
noncomputable def escheatref03_Rise_c2_d (n : Nat) : SmV := smOps E_escheatref03_Rise escheatref03_Rise_o2
noncomputable def escheatref03_Rise_c3_d (n : Nat) : SmV := smCond (.t 7) smSkip (smExit 0)
noncomputable def escheatref03_Rise_c4_d (n : Nat) : SmV := smSeq [0, 3, 7] (escheatref03_Rise_c2_d n) (escheatref03_Rise_c3_d n)
noncomputable def escheatref03_Rise_c5_d (n : Nat) : SmV := smDraw E_escheatref03_Rise 0 escheatref03_Rise_o3 escheatref03_Rise_o4
noncomputable def escheatref03_Rise_c6_d (n : Nat) : SmV := smOps E_escheatref03_Rise escheatref03_Rise_o5
noncomputable def escheatref03_Rise_c7_d (n : Nat) : SmV := smSeq [2] (escheatref03_Rise_c6_d n) smRet
noncomputable def escheatref03_Rise_c8_d (n : Nat) : SmV := smCond (.t 20) (escheatref03_Rise_c7_d n) smSkip
noncomputable def escheatref03_Rise_c9_d (n : Nat) : SmV := smSeq [0, 3, 20] (escheatref03_Rise_c5_d n) (escheatref03_Rise_c8_d n)
noncomputable def escheatref03_Rise_c10_d (n : Nat) : SmV := smBlock 1 (escheatref03_Rise_c9_d n)
noncomputable def escheatref03_Rise_c11_d (n : Nat) : SmV := smOps E_escheatref03_Rise escheatref03_Rise_o6
noncomputable def escheatref03_Rise_c12_d (n : Nat) : SmV := smSeq [0, 3] (escheatref03_Rise_c10_d n) (escheatref03_Rise_c11_d n)
noncomputable def escheatref03_Rise_c13_d (n : Nat) : SmV := smSeq [0, 3] (escheatref03_Rise_c4_d n) (escheatref03_Rise_c12_d n)
noncomputable def escheatref03_Rise_c14_d (n : Nat) : SmV := smLoop n [0, 3] (escheatref03_Rise_c13_d n)
noncomputable def escheatref03_Rise_c15_d (n : Nat) : SmV := smBlock 0 (escheatref03_Rise_c14_d n)
noncomputable def escheatref03_Rise_c16_d (n : Nat) : SmV := smSeq [0, 3] (escheatref03_Rise_c1_d n) (escheatref03_Rise_c15_d n)
noncomputable def escheatref03_Rise_c17_d (n : Nat) : SmV := smOps E_escheatref03_Rise escheatref03_Rise_o7
noncomputable def escheatref03_Rise_c18_d (n : Nat) : SmV := smSeq [2] (escheatref03_Rise_c17_d n) smRet
noncomputable def escheatref03_Rise_c19_d (n : Nat) : SmV := smSeq [] (escheatref03_Rise_c16_d n) (escheatref03_Rise_c18_d n)
noncomputable def escheatref03_Rise_c20_d (n : Nat) : SmV := smSeq [0] (escheatref03_Rise_c0_d n) (escheatref03_Rise_c19_d n)
noncomputable def escheatref03_Rise_k0 (n : Nat) : AExit → Env → Heap → OptV := fun x e h => match x with | .normal => hold ((escheatref03_Rise_c18_d n) A_escheatref03_Rise.fin (e.keep []) h) | .exit id => A_escheatref03_Rise.fin (.exit id) e h | .ret => A_escheatref03_Rise.fin .ret e h
noncomputable def escheatref03_Rise_k1 (n : Nat) : AExit → Env → Heap → OptV := fun x e h => match x with | .exit i => bif Nat.beq i 0 then (escheatref03_Rise_k0 n) .normal e h else (escheatref03_Rise_k0 n) (.exit i) e h | .normal => (escheatref03_Rise_k0 n) .normal e h | .ret => (escheatref03_Rise_k0 n) .ret e h
noncomputable def escheatref03_Rise_l0 (n m : Nat) (x0 x3 : Val) (h : Heap) : OptV := around (escheatref03_Rise_c13_d n) [0, 3] (escheatref03_Rise_k1 n) m [(0, x0), (3, x3)] h
noncomputable def R_escheatref03_Rise (n : Nat) (args : List Val) (h : Heap) : OptV := (escheatref03_Rise_c20_d n) A_escheatref03_Rise.fin (params 0 args) h
theorem R_escheatref03_Rise_eq (n : Nat) (a0 : Val) (h : Heap) : R_escheatref03_Rise n [a0] h = escheatref03_Rise_l0 n n a0 (.c (.i .i64 1)) h := by kernel_rfl
theorem escheatref03_Rise_l0_eq (n m : Nat) (x0 x3 : Val) (h : Heap) : escheatref03_Rise_l0 n (m + 1) x0 x3 h = bnd (alen x0) fun v1 => bnd (abin .lss x3 v1) fun v2 => cnd v2 (bnd (abin .sub x3 (.c (.i .i64 1))) fun v3 => bnd (aiAddrL 1 x0 v3) fun v4 => bnd (aload1 h v4) fun v5 => bnd (aiAddrL 1 x0 x3) fun v6 => bnd (aload1 h v6) fun v7 => bnd (S_escheatref03_Less [v5, v7] ((h ++ []))) fun p8 => bnd (aun .not p8.1) fun v9 => cnd v9 (some ((.c (.b false)), p8.2)) (bnd (abin .add x3 (.c (.i .i64 1))) fun v10 => escheatref03_Rise_l0 n m x0 v10 p8.2)) (some ((.c (.b true)), h)) := by kernel_rfl
theorem K_escheatref03_Rise : FnK Try.prog 78 A_escheatref03_Rise E_escheatref03_Rise R_escheatref03_Rise := .mk' (sound1 S_escheatref03_Less_ok sound0) Try.func78 (by kernel_rfl) (by intro n args h; kernel_rfl)
noncomputable def S_escheatref03_Rise : Fun := tidy (Lim A_escheatref03_Rise E_escheatref03_Rise)
theorem S_escheatref03_Rise_ok : SOk Try.prog 78 S_escheatref03_Rise := K_escheatref03_Rise.sok
theorem S_escheatref03_Rise_flat {n : Nat} {args : List Val} {h h2 : Heap} {v : Val} (he : R_escheatref03_Rise n args (ro h) = some (v, h2)) (hf : v.flat = true) : S_escheatref03_Rise args h = some (v, h) := K_escheatref03_Rise.flat he hf
end Go.Proofs.Ytbbkpmbepljhkaa
