/- Name: the Go functions of this package as the abstract evaluator computes them: printed by a program, checked by Lean. -/
import Derived.Test.YtbbkpmbepljhkaaEscS
import Derived.Test.YtbbkpmbepljhkaaChecked
import Derived.KernelRfl
namespace Go.Proofs.Ytbbkpmbepljhkaa
open Go Go.Esc
set_option maxRecDepth 100000
set_option linter.all false
def name_Check_o0 : List AOper := [{ dst := some 2, op := .mv (.v (.c (.i .i64 0))) }]
def name_Check_c0 : ACode := .ops name_Check_o0
def name_Check_o1 : List AOper := [{ dst := some 4, op := .mv (.t 0) }, { dst := some 5, op := .lenS (.t 4) }, { dst := some 6, op := .bin .lss (.t 5) (.v (.c (.i .i64 1))) }, { dst := some 7, op := .mv (.t 6) }, { dst := some 8, op := .mv (.t 0), guard := some (7, false) }, { dst := some 9, op := .lenS (.t 8), guard := some (7, false) }, { dst := some 10, op := .bin .gtr (.t 9) (.v (.c (.i .i64 24))), guard := some (7, false) }, { dst := some 11, op := .pick (.t 7) (.v (.c (.b true))) (.t 10) }, { dst := some 12, op := .mv (.t 11) }, { dst := some 13, op := .mv (.t 0), guard := some (12, false) }, { dst := some 14, op := .bin .eql (.t 13) (.v (.c (.s [46]))), guard := some (12, false) }, { dst := some 15, op := .pick (.t 12) (.v (.c (.b true))) (.t 14) }, { dst := some 16, op := .mv (.t 15) }, { dst := some 17, op := .mv (.t 0), guard := some (16, false) }, { dst := some 18, op := .bin .eql (.t 17) (.v (.c (.s [46, 46]))), guard := some (16, false) }, { dst := some 19, op := .pick (.t 16) (.v (.c (.b true))) (.t 18) }]
def name_Check_c1 : ACode := .ops name_Check_o1
def name_Check_o2 : List AOper := [{ dst := some 2, op := .mv (.v (.c (.i .i64 3))) }]
def name_Check_c2 : ACode := .ops name_Check_o2
def name_Check_c3 : ACode := .seq [2] name_Check_c2 .ret
def name_Check_c4 : ACode := .cond (.t 19) name_Check_c3 .skip
def name_Check_c5 : ACode := .seq [0, 19] name_Check_c1 name_Check_c4
def name_Check_o3 : List AOper := [{ dst := some 20, op := .mv (.t 0) }, { dst := some 21, op := .lenS (.t 20) }, { dst := some 22, op := .mv (.v (.c (.i .i64 0))) }]
def name_Check_c6 : ACode := .ops name_Check_o3
def name_Check_o4 : List AOper := [{ dst := some 23, op := .bin .lss (.t 22) (.t 21) }]
def name_Check_c7 : ACode := .ops name_Check_o4
def name_Check_c8 : ACode := .cond (.t 23) .skip (.exit 0)
def name_Check_o5 : List AOper := [{ dst := some 24, op := .mv (.t 22) }, { dst := some 3, op := .mv (.t 24) }]
def name_Check_c9 : ACode := .ops name_Check_o5
def name_Check_o6 : List AOper := [{ dst := some 25, op := .mv (.t 0) }, { dst := some 26, op := .mv (.t 3) }, { dst := some 27, op := .idxS (.t 25) (.t 26) }, { dst := some 28, op := .bin .eql (.t 27) (.v (.c (.i .u8 0))) }, { dst := some 29, op := .mv (.t 28) }, { dst := some 30, op := .mv (.t 0), guard := some (29, false) }, { dst := some 31, op := .mv (.t 3), guard := some (29, false) }, { dst := some 32, op := .idxS (.t 30) (.t 31), guard := some (29, false) }, { dst := some 33, op := .bin .eql (.t 32) (.v (.c (.i .u8 47))), guard := some (29, false) }, { dst := some 34, op := .pick (.t 29) (.v (.c (.b true))) (.t 33) }]
def name_Check_c10 : ACode := .ops name_Check_o6
def name_Check_o7 : List AOper := [{ dst := some 2, op := .mv (.v (.c (.i .i64 3))) }]
def name_Check_c11 : ACode := .ops name_Check_o7
def name_Check_c12 : ACode := .seq [2] name_Check_c11 .ret
def name_Check_c13 : ACode := .cond (.t 34) name_Check_c12 .skip
def name_Check_c14 : ACode := .seq [0, 21, 22, 34] name_Check_c10 name_Check_c13
def name_Check_c15 : ACode := .seq [0, 3, 21, 22] name_Check_c9 name_Check_c14
def name_Check_c16 : ACode := .block 1 name_Check_c15
def name_Check_o8 : List AOper := [{ dst := some 35, op := .bin .add (.t 22) (.v (.c (.i .i64 1))) }, { dst := some 22, op := .mv (.t 35) }]
def name_Check_c17 : ACode := .ops name_Check_o8
def name_Check_c18 : ACode := .seq [0, 21, 22] name_Check_c16 name_Check_c17
def name_Check_c19 : ACode := .seq [0, 21, 22] name_Check_c8 name_Check_c18
def name_Check_c20 : ACode := .seq [0, 21, 22, 23] name_Check_c7 name_Check_c19
def name_Check_c21 : ACode := .loop [0, 21, 22] name_Check_c20
def name_Check_c22 : ACode := .block 0 name_Check_c21
def name_Check_c23 : ACode := .seq [0, 21, 22] name_Check_c6 name_Check_c22
def name_Check_o9 : List AOper := [{ dst := some 2, op := .mv (.v (.c (.i .i64 0))) }]
def name_Check_c24 : ACode := .ops name_Check_o9
def name_Check_c25 : ACode := .seq [2] name_Check_c24 .ret
def name_Check_c26 : ACode := .seq [] name_Check_c23 name_Check_c25
def name_Check_c27 : ACode := .seq [0] name_Check_c5 name_Check_c26
def name_Check_c28 : ACode := .seq [0] name_Check_c0 name_Check_c27
def A_name_Check : AFn := ⟨name_Check_c28, [.tmp 2]⟩
noncomputable def E_name_Check : Sums := disp0
noncomputable def name_Check_c0_d (n : Nat) : SmV := smOps E_name_Check name_Check_o0
noncomputable def name_Check_c1_d (n : Nat) : SmV := smOps E_name_Check name_Check_o1
noncomputable def name_Check_c2_d (n : Nat) : SmV := smOps E_name_Check name_Check_o2
noncomputable def name_Check_c3_d (n : Nat) : SmV := smSeq [2] (name_Check_c2_d n) smRet
noncomputable def name_Check_c4_d (n : Nat) : SmV := smCond (.t 19) (name_Check_c3_d n) smSkip
noncomputable def name_Check_c5_d (n : Nat) : SmV := smSeq [0, 19] (name_Check_c1_d n) (name_Check_c4_d n)
noncomputable def name_Check_c6_d (n : Nat) : SmV := smOps E_name_Check name_Check_o3
noncomputable def name_Check_c7_d (n : Nat) : SmV := smOps E_name_Check name_Check_o4
noncomputable def name_Check_c8_d (n : Nat) : SmV := smCond (.t 23) smSkip (smExit 0)
noncomputable def name_Check_c9_d (n : Nat) : SmV := smOps E_name_Check name_Check_o5
noncomputable def name_Check_c10_d (n : Nat) : SmV := smOps E_name_Check name_Check_o6
noncomputable def name_Check_c11_d (n : Nat) : SmV := smOps E_name_Check name_Check_o7
noncomputable def name_Check_c12_d (n : Nat) : SmV := smSeq [2] (name_Check_c11_d n) smRet
noncomputable def name_Check_c13_d (n : Nat) : SmV := smCond (.t 34) (name_Check_c12_d n) smSkip
noncomputable def name_Check_c14_d (n : Nat) : SmV := smSeq [0, 21, 22, 34] (name_Check_c10_d n) (name_Check_c13_d n)
noncomputable def name_Check_c15_d (n : Nat) : SmV := smSeq [0, 3, 21, 22] (name_Check_c9_d n) (name_Check_c14_d n)
noncomputable def name_Check_c16_d (n : Nat) : SmV := smBlock 1 (name_Check_c15_d n)
noncomputable def name_Check_c17_d (n : Nat) : SmV := smOps E_name_Check name_Check_o8
noncomputable def name_Check_c18_d (n : Nat) : SmV := smSeq [0, 21, 22] (name_Check_c16_d n) (name_Check_c17_d n)
noncomputable def name_Check_c19_d (n : Nat) : SmV := smSeq [0, 21, 22] (name_Check_c8_d n) (name_Check_c18_d n)
noncomputable def name_Check_c20_d (n : Nat) : SmV := smSeq [0, 21, 22, 23] (name_Check_c7_d n) (name_Check_c19_d n)
noncomputable def name_Check_c21_d (n : Nat) : SmV := smLoop n [0, 21, 22] (name_Check_c20_d n)
noncomputable def name_Check_c22_d (n : Nat) : SmV := smBlock 0 (name_Check_c21_d n)
noncomputable def name_Check_c23_d (n : Nat) : SmV := smSeq [0, 21, 22] (name_Check_c6_d n) (name_Check_c22_d n)
noncomputable def name_Check_c24_d (n : Nat) : SmV := smOps E_name_Check name_Check_o9
noncomputable def name_Check_c25_d (n : Nat) : SmV := smSeq [2] (name_Check_c24_d n) smRet
noncomputable def name_Check_c26_d (n : Nat) : SmV := smSeq [] (name_Check_c23_d n) (name_Check_c25_d n)
noncomputable def name_Check_c27_d (n : Nat) : SmV := smSeq [0] (name_Check_c5_d n) (name_Check_c26_d n)
noncomputable def name_Check_c28_d (n : Nat) : SmV := smSeq [0] (name_Check_c0_d n) (name_Check_c27_d n)
noncomputable def name_Check_k0 (n : Nat) : AExit → Env → Heap → OptV := fun x e h => match x with | .normal => hold ((name_Check_c25_d n) A_name_Check.fin (e.keep []) h) | .exit id => A_name_Check.fin (.exit id) e h | .ret => A_name_Check.fin .ret e h
noncomputable def name_Check_k1 (n : Nat) : AExit → Env → Heap → OptV := fun x e h => match x with | .exit i => bif Nat.beq i 0 then (name_Check_k0 n) .normal e h else (name_Check_k0 n) (.exit i) e h | .normal => (name_Check_k0 n) .normal e h | .ret => (name_Check_k0 n) .ret e h
noncomputable def name_Check_l0 (n m : Nat) (x0 x21 x22 : Val) (h : Heap) : OptV := around (name_Check_c20_d n) [0, 21, 22] (name_Check_k1 n) m [(0, x0), (21, x21), (22, x22)] h
noncomputable def R_name_Check (n : Nat) (args : List Val) (h : Heap) : OptV := (name_Check_c28_d n) A_name_Check.fin (params 0 args) h
theorem R_name_Check_eq (n : Nat) (a0 : Val) (h : Heap) : R_name_Check n [a0] h = bnd (alenS a0) fun v1 => bnd (abin .lss v1 (.c (.i .i64 1))) fun v2 => bnd (gd v2 false (some (a0, h)) (some (.no, h))) fun p3 => bnd (gd v2 false (bnd (alenS p3.1) fun v4 => some (v4, p3.2)) (some (.no, p3.2))) fun p5 => bnd (gd v2 false (bnd (abin .gtr p5.1 (.c (.i .i64 24))) fun v6 => some (v6, p5.2)) (some (.no, p5.2))) fun p7 => bnd (apick v2 (.c (.b true)) p7.1) fun v8 => bnd (gd v8 false (some (a0, p7.2)) (some (.no, p7.2))) fun p9 => bnd (gd v8 false (bnd (abin .eql p9.1 (.c (.s [46]))) fun v10 => some (v10, p9.2)) (some (.no, p9.2))) fun p11 => bnd (apick v8 (.c (.b true)) p11.1) fun v12 => bnd (gd v12 false (some (a0, p11.2)) (some (.no, p11.2))) fun p13 => bnd (gd v12 false (bnd (abin .eql p13.1 (.c (.s [46, 46]))) fun v14 => some (v14, p13.2)) (some (.no, p13.2))) fun p15 => bnd (apick v12 (.c (.b true)) p15.1) fun v16 => cnd v16 (some ((.c (.i .i64 3)), p15.2)) (bnd (alenS a0) fun v17 => name_Check_l0 n n a0 v17 (.c (.i .i64 0)) p15.2) := by kernel_rfl
theorem name_Check_l0_eq (n m : Nat) (x0 x21 x22 : Val) (h : Heap) : name_Check_l0 n (m + 1) x0 x21 x22 h = bnd (abin .lss x22 x21) fun v18 => cnd v18 (bnd (aidxS x0 x22) fun v19 => bnd (abin .eql v19 (.c (.i .u8 0))) fun v20 => bnd (gd v20 false (some (x0, h)) (some (.no, h))) fun p21 => bnd (gd v20 false (some (x22, p21.2)) (some (.no, p21.2))) fun p22 => bnd (gd v20 false (bnd (aidxS p21.1 p22.1) fun v23 => some (v23, p22.2)) (some (.no, p22.2))) fun p24 => bnd (gd v20 false (bnd (abin .eql p24.1 (.c (.i .u8 47))) fun v25 => some (v25, p24.2)) (some (.no, p24.2))) fun p26 => bnd (apick v20 (.c (.b true)) p26.1) fun v27 => cnd v27 (some ((.c (.i .i64 3)), p26.2)) (bnd (abin .add x22 (.c (.i .i64 1))) fun v28 => name_Check_l0 n m x0 x21 v28 p26.2)) (some ((.c (.i .i64 0)), h)) := by kernel_rfl
theorem K_name_Check : FnK Try.prog 42 A_name_Check E_name_Check R_name_Check := .mk' (sound0) Try.func42 (by kernel_rfl) (by intro n args h; kernel_rfl)
noncomputable def S_name_Check : Fun := tidy (Lim A_name_Check E_name_Check)
theorem S_name_Check_ok : SOk Try.prog 42 S_name_Check := K_name_Check.sok
theorem S_name_Check_flat {n : Nat} {args : List Val} {h h2 : Heap} {v : Val} (he : R_name_Check n args (ro h) = some (v, h2)) (hf : v.flat = true) : S_name_Check args h = some (v, h) := K_name_Check.flat he hf
def name_Pack_o0 : List AOper := [{ dst := some 2, op := .alloc (List.replicate 25 (.i .u8 0)) }, { dst := some 3, op := .mv (.v (.c (.i .i64 0))) }]
def name_Pack_c0 : ACode := .ops name_Pack_o0
def name_Pack_o1 : List AOper := [{ dst := some 4, op := .alloc (List.replicate 25 (.i .u8 0)) }]
def name_Pack_c1 : ACode := .ops name_Pack_o1
def name_Pack_o2 : List AOper := [{ dst := some 7, op := .mv (.t 0) }, { dst := some 8, op := .call 42 [(.t 7)] }, { dst := some 5, op := .mv (.t 8) }]
def name_Pack_c2 : ACode := .ops name_Pack_o2
def name_Pack_o3 : List AOper := [{ dst := some 9, op := .mv (.t 5) }, { dst := some 10, op := .bin .neq (.t 9) (.v (.c (.i .i64 0))) }]
def name_Pack_c3 : ACode := .ops name_Pack_o3
def name_Pack_o4 : List AOper := [{ dst := some 11, op := .loadN 25 (.t 4) }, { dst := some 12, op := .mv (.t 5) }, { dst := none, op := .storeN 25 (.t 2) (.t 11) }, { dst := some 3, op := .mv (.t 12) }]
def name_Pack_c4 : ACode := .ops name_Pack_o4
def name_Pack_c5 : ACode := .seq [2, 3] name_Pack_c4 .ret
def name_Pack_c6 : ACode := .cond (.t 10) name_Pack_c5 .skip
def name_Pack_c7 : ACode := .seq [0, 2, 4, 5, 10] name_Pack_c3 name_Pack_c6
def name_Pack_c8 : ACode := .seq [0, 2, 4, 5] name_Pack_c2 name_Pack_c7
def name_Pack_o5 : List AOper := [{ dst := some 13, op := .mv (.t 0) }, { dst := some 14, op := .lenS (.t 13) }, { dst := some 15, op := .conv .u8 (.t 14) }, { dst := some 16, op := .iAddrA 25 1 (.t 4) (.v (.c (.i .i64 0))) }, { dst := none, op := .store1 (.t 16) (.t 15) }]
def name_Pack_c9 : ACode := .ops name_Pack_o5
def name_Pack_o6 : List AOper := [{ dst := some 17, op := .mv (.t 0) }, { dst := some 18, op := .lenS (.t 17) }, { dst := some 19, op := .mv (.v (.c (.i .i64 0))) }]
def name_Pack_c10 : ACode := .ops name_Pack_o6
def name_Pack_o7 : List AOper := [{ dst := some 20, op := .bin .lss (.t 19) (.t 18) }]
def name_Pack_c11 : ACode := .ops name_Pack_o7
def name_Pack_c12 : ACode := .cond (.t 20) .skip (.exit 0)
def name_Pack_o8 : List AOper := [{ dst := some 21, op := .mv (.t 19) }, { dst := some 6, op := .mv (.t 21) }]
def name_Pack_c13 : ACode := .ops name_Pack_o8
def name_Pack_o9 : List AOper := [{ dst := some 22, op := .mv (.t 6) }, { dst := some 23, op := .bin .add (.v (.c (.i .i64 1))) (.t 22) }, { dst := some 24, op := .mv (.t 0) }, { dst := some 25, op := .mv (.t 6) }, { dst := some 26, op := .idxS (.t 24) (.t 25) }, { dst := some 27, op := .iAddrA 25 1 (.t 4) (.t 23) }, { dst := none, op := .store1 (.t 27) (.t 26) }]
def name_Pack_c14 : ACode := .ops name_Pack_o9
def name_Pack_c15 : ACode := .seq [0, 2, 4, 6, 18, 19] name_Pack_c13 name_Pack_c14
def name_Pack_c16 : ACode := .block 1 name_Pack_c15
def name_Pack_o10 : List AOper := [{ dst := some 28, op := .bin .add (.t 19) (.v (.c (.i .i64 1))) }, { dst := some 19, op := .mv (.t 28) }]
def name_Pack_c17 : ACode := .ops name_Pack_o10
def name_Pack_c18 : ACode := .seq [0, 2, 4, 18, 19] name_Pack_c16 name_Pack_c17
def name_Pack_c19 : ACode := .seq [0, 2, 4, 18, 19] name_Pack_c12 name_Pack_c18
def name_Pack_c20 : ACode := .seq [0, 2, 4, 18, 19, 20] name_Pack_c11 name_Pack_c19
def name_Pack_c21 : ACode := .loop [0, 2, 4, 18, 19] name_Pack_c20
def name_Pack_c22 : ACode := .block 0 name_Pack_c21
def name_Pack_c23 : ACode := .seq [0, 2, 4, 18, 19] name_Pack_c10 name_Pack_c22
def name_Pack_o11 : List AOper := [{ dst := some 29, op := .loadN 25 (.t 4) }, { dst := none, op := .storeN 25 (.t 2) (.t 29) }, { dst := some 3, op := .mv (.v (.c (.i .i64 0))) }]
def name_Pack_c24 : ACode := .ops name_Pack_o11
def name_Pack_c25 : ACode := .seq [2, 3] name_Pack_c24 .ret
def name_Pack_c26 : ACode := .seq [2, 4] name_Pack_c23 name_Pack_c25
def name_Pack_c27 : ACode := .seq [0, 2, 4] name_Pack_c9 name_Pack_c26
def name_Pack_c28 : ACode := .seq [0, 2, 4] name_Pack_c8 name_Pack_c27
def name_Pack_c29 : ACode := .seq [0, 2, 4] name_Pack_c1 name_Pack_c28
def name_Pack_c30 : ACode := .seq [0, 2] name_Pack_c0 name_Pack_c29
def A_name_Pack : AFn := ⟨name_Pack_c30, [.cellN 2 25, .tmp 3]⟩
noncomputable def E_name_Pack : Sums := disp 42 S_name_Check disp0
noncomputable def name_Pack_c0_d (n : Nat) : SmV := smOps E_name_Pack name_Pack_o0
noncomputable def name_Pack_c1_d (n : Nat) : SmV := smOps E_name_Pack name_Pack_o1
noncomputable def name_Pack_c2_d (n : Nat) : SmV := smOps E_name_Pack name_Pack_o2
noncomputable def name_Pack_c3_d (n : Nat) : SmV := smOps E_name_Pack name_Pack_o3
noncomputable def name_Pack_c4_d (n : Nat) : SmV := smOps E_name_Pack name_Pack_o4
noncomputable def name_Pack_c5_d (n : Nat) : SmV := smSeq [2, 3] (name_Pack_c4_d n) smRet
noncomputable def name_Pack_c6_d (n : Nat) : SmV := smCond (.t 10) (name_Pack_c5_d n) smSkip
noncomputable def name_Pack_c7_d (n : Nat) : SmV := smSeq [0, 2, 4, 5, 10] (name_Pack_c3_d n) (name_Pack_c6_d n)
noncomputable def name_Pack_c8_d (n : Nat) : SmV := smSeq [0, 2, 4, 5] (name_Pack_c2_d n) (name_Pack_c7_d n)
noncomputable def name_Pack_c9_d (n : Nat) : SmV := smOps E_name_Pack name_Pack_o5
noncomputable def name_Pack_c10_d (n : Nat) : SmV := smOps E_name_Pack name_Pack_o6
noncomputable def name_Pack_c11_d (n : Nat) : SmV := smOps E_name_Pack name_Pack_o7
noncomputable def name_Pack_c12_d (n : Nat) : SmV := smCond (.t 20) smSkip (smExit 0)
noncomputable def name_Pack_c13_d (n : Nat) : SmV := smOps E_name_Pack name_Pack_o8
noncomputable def name_Pack_c14_d (n : Nat) : SmV := smOps E_name_Pack name_Pack_o9
noncomputable def name_Pack_c15_d (n : Nat) : SmV := smSeq [0, 2, 4, 6, 18, 19] (name_Pack_c13_d n) (name_Pack_c14_d n)
noncomputable def name_Pack_c16_d (n : Nat) : SmV := smBlock 1 (name_Pack_c15_d n)
noncomputable def name_Pack_c17_d (n : Nat) : SmV := smOps E_name_Pack name_Pack_o10
noncomputable def name_Pack_c18_d (n : Nat) : SmV := smSeq [0, 2, 4, 18, 19] (name_Pack_c16_d n) (name_Pack_c17_d n)
noncomputable def name_Pack_c19_d (n : Nat) : SmV := smSeq [0, 2, 4, 18, 19] (name_Pack_c12_d n) (name_Pack_c18_d n)
noncomputable def name_Pack_c20_d (n : Nat) : SmV := smSeq [0, 2, 4, 18, 19, 20] (name_Pack_c11_d n) (name_Pack_c19_d n)
noncomputable def name_Pack_c21_d (n : Nat) : SmV := smLoop n [0, 2, 4, 18, 19] (name_Pack_c20_d n)
noncomputable def name_Pack_c22_d (n : Nat) : SmV := smBlock 0 (name_Pack_c21_d n)
noncomputable def name_Pack_c23_d (n : Nat) : SmV := smSeq [0, 2, 4, 18, 19] (name_Pack_c10_d n) (name_Pack_c22_d n)
noncomputable def name_Pack_c24_d (n : Nat) : SmV := smOps E_name_Pack name_Pack_o11
noncomputable def name_Pack_c25_d (n : Nat) : SmV := smSeq [2, 3] (name_Pack_c24_d n) smRet
noncomputable def name_Pack_c26_d (n : Nat) : SmV := smSeq [2, 4] (name_Pack_c23_d n) (name_Pack_c25_d n)
noncomputable def name_Pack_c27_d (n : Nat) : SmV := smSeq [0, 2, 4] (name_Pack_c9_d n) (name_Pack_c26_d n)
noncomputable def name_Pack_c28_d (n : Nat) : SmV := smSeq [0, 2, 4] (name_Pack_c8_d n) (name_Pack_c27_d n)
noncomputable def name_Pack_c29_d (n : Nat) : SmV := smSeq [0, 2, 4] (name_Pack_c1_d n) (name_Pack_c28_d n)
noncomputable def name_Pack_c30_d (n : Nat) : SmV := smSeq [0, 2] (name_Pack_c0_d n) (name_Pack_c29_d n)
noncomputable def name_Pack_k0 (n : Nat) : AExit → Env → Heap → OptV := fun x e h => match x with | .normal => hold ((name_Pack_c25_d n) A_name_Pack.fin (e.keep [2, 4]) h) | .exit id => A_name_Pack.fin (.exit id) e h | .ret => A_name_Pack.fin .ret e h
noncomputable def name_Pack_k1 (n : Nat) : AExit → Env → Heap → OptV := fun x e h => match x with | .exit i => bif Nat.beq i 0 then (name_Pack_k0 n) .normal e h else (name_Pack_k0 n) (.exit i) e h | .normal => (name_Pack_k0 n) .normal e h | .ret => (name_Pack_k0 n) .ret e h
noncomputable def name_Pack_l0 (n m : Nat) (x0 x2 x4 x18 x19 : Val) (h : Heap) : OptV := around (name_Pack_c20_d n) [0, 2, 4, 18, 19] (name_Pack_k1 n) m [(0, x0), (2, x2), (4, x4), (18, x18), (19, x19)] h
noncomputable def R_name_Pack (n : Nat) (args : List Val) (h : Heap) : OptV := (name_Pack_c30_d n) A_name_Pack.fin (params 0 args) h
theorem R_name_Pack_eq (n : Nat) (a0 : Val) (h : Heap) : R_name_Pack n [a0] h = bnd (S_name_Check [a0] (((h ++ [some (Row.mk (List.replicate 25 (.i .u8 0)) true)]) ++ [some (Row.mk (List.replicate 25 (.i .u8 0)) true)]))) fun p1 => bnd (abin .neq p1.1 (.c (.i .i64 0))) fun v2 => cnd v2 (bnd (aloadN p1.2 25 ((.c (.p ((h ++ [some (Row.mk (List.replicate 25 (.i .u8 0)) true)])).length 0)))) fun v3 => bnd (astoreN p1.2 25 ((.c (.p h.length 0))) v3) fun h4 => tupN [aloadN h4 25 ((.c (.p h.length 0))), some p1.1] h4) (bnd (alenS a0) fun v5 => bnd (aconv .u8 v5) fun v6 => bnd (aiAddrA 25 1 ((.c (.p ((h ++ [some (Row.mk (List.replicate 25 (.i .u8 0)) true)])).length 0))) (.c (.i .i64 0))) fun v7 => bnd (astore1 p1.2 v7 v6) fun h8 => bnd (alenS a0) fun v9 => name_Pack_l0 n n a0 ((.c (.p h.length 0))) ((.c (.p ((h ++ [some (Row.mk (List.replicate 25 (.i .u8 0)) true)])).length 0))) v9 (.c (.i .i64 0)) h8) := by kernel_rfl
theorem name_Pack_l0_eq (n m : Nat) (x0 x2 x4 x18 x19 : Val) (h : Heap) : name_Pack_l0 n (m + 1) x0 x2 x4 x18 x19 h = bnd (abin .lss x19 x18) fun v10 => cnd v10 (bnd (abin .add (.c (.i .i64 1)) x19) fun v11 => bnd (aidxS x0 x19) fun v12 => bnd (aiAddrA 25 1 x4 v11) fun v13 => bnd (astore1 h v13 v12) fun h14 => bnd (abin .add x19 (.c (.i .i64 1))) fun v15 => name_Pack_l0 n m x0 x2 x4 x18 v15 h14) (bnd (aloadN h 25 x4) fun v16 => bnd (astoreN h 25 x2 v16) fun h17 => tupN [aloadN h17 25 x2, some (.c (.i .i64 0))] h17) := by kernel_rfl
theorem K_name_Pack : FnK Try.prog 46 A_name_Pack E_name_Pack R_name_Pack := .mk' (sound1 S_name_Check_ok sound0) Try.func46 (by kernel_rfl) (by intro n args h; kernel_rfl)
noncomputable def S_name_Pack : Fun := tidy (Lim A_name_Pack E_name_Pack)
theorem S_name_Pack_ok : SOk Try.prog 46 S_name_Pack := K_name_Pack.sok
theorem S_name_Pack_flat {n : Nat} {args : List Val} {h h2 : Heap} {v : Val} (he : R_name_Pack n args (ro h) = some (v, h2)) (hf : v.flat = true) : S_name_Pack args h = some (v, h) := K_name_Pack.flat he hf
def name_Less_o0 : List AOper := [{ dst := some 4, op := .mv (.v (.c (.b false))) }]
def name_Less_c0 : ACode := .ops name_Less_o0
def name_Less_o1 : List AOper := [{ dst := some 5, op := .mv (.t 0) }, { dst := some 6, op := .mv (.t 1) }, { dst := some 7, op := .bin .lss (.t 5) (.t 6) }, { dst := some 4, op := .mv (.t 7) }]
def name_Less_c1 : ACode := .ops name_Less_o1
def name_Less_c2 : ACode := .seq [4] name_Less_c1 .ret
def name_Less_c3 : ACode := .seq [0, 1] name_Less_c0 name_Less_c2
def A_name_Less : AFn := ⟨name_Less_c3, [.tmp 4]⟩
noncomputable def E_name_Less : Sums := disp0
noncomputable def name_Less_c0_d (n : Nat) : SmV := smOps E_name_Less name_Less_o0
noncomputable def name_Less_c1_d (n : Nat) : SmV := smOps E_name_Less name_Less_o1
noncomputable def name_Less_c2_d (n : Nat) : SmV := smSeq [4] (name_Less_c1_d n) smRet
noncomputable def name_Less_c3_d (n : Nat) : SmV := smSeq [0, 1] (name_Less_c0_d n) (name_Less_c2_d n)
noncomputable def R_name_Less (n : Nat) (args : List Val) (h : Heap) : OptV := (name_Less_c3_d n) A_name_Less.fin (params 0 args) h
theorem R_name_Less_eq (n : Nat) (a0 a1 : Val) (h : Heap) : R_name_Less n [a0, a1] h = bnd (abin .lss a0 a1) fun v1 => some (v1, h) := by kernel_rfl
theorem K_name_Less : FnK Try.prog 44 A_name_Less E_name_Less R_name_Less := .mk' (sound0) Try.func44 (by kernel_rfl) (by intro n args h; kernel_rfl)
noncomputable def S_name_Less : Fun := tidy (Lim A_name_Less E_name_Less)
theorem S_name_Less_ok : SOk Try.prog 44 S_name_Less := K_name_Less.sok
theorem S_name_Less_flat {n : Nat} {args : List Val} {h h2 : Heap} {v : Val} (he : R_name_Less n args (ro h) = some (v, h2)) (hf : v.flat = true) : S_name_Less args h = some (v, h) := K_name_Less.flat he hf
def name_Unpack_o0 : List AOper := [{ dst := some 1, op := .box (.t 0) }, { dst := some 2, op := .mv (.v (.c (.s []))) }, { dst := some 3, op := .mv (.v (.c (.i .i64 0))) }]
def name_Unpack_c0 : ACode := .ops name_Unpack_o0
def name_Unpack_o1 : List AOper := [{ dst := some 8, op := .iAddrA 25 1 (.t 1) (.v (.c (.i .i64 0))) }, { dst := some 9, op := .load1 (.t 8) }, { dst := some 10, op := .conv .i64 (.t 9) }, { dst := some 4, op := .mv (.t 10) }]
def name_Unpack_c1 : ACode := .ops name_Unpack_o1
def name_Unpack_o2 : List AOper := [{ dst := some 11, op := .mv (.t 4) }, { dst := some 12, op := .bin .gtr (.t 11) (.v (.c (.i .i64 24))) }]
def name_Unpack_c2 : ACode := .ops name_Unpack_o2
def name_Unpack_o3 : List AOper := [{ dst := some 2, op := .mv (.v (.c (.s []))) }, { dst := some 3, op := .mv (.v (.c (.i .i64 3))) }]
def name_Unpack_c3 : ACode := .ops name_Unpack_o3
def name_Unpack_c4 : ACode := .seq [2, 3] name_Unpack_c3 .ret
def name_Unpack_c5 : ACode := .cond (.t 12) name_Unpack_c4 .skip
def name_Unpack_c6 : ACode := .seq [1, 4, 12] name_Unpack_c2 name_Unpack_c5
def name_Unpack_o4 : List AOper := [{ dst := some 13, op := .mv (.t 4) }, { dst := some 14, op := .bin .add (.v (.c (.i .i64 1))) (.t 13) }, { dst := some 15, op := .slA 25 1 (.t 1) (some (.v (.c (.i .i64 1)))) (some (.t 14)) }, { dst := some 16, op := .b2s (.t 15) }, { dst := some 5, op := .mv (.t 16) }]
def name_Unpack_c7 : ACode := .ops name_Unpack_o4
def name_Unpack_o5 : List AOper := [{ dst := some 18, op := .mv (.t 5) }, { dst := some 19, op := .call 46 [(.t 18)] }, { dst := some 17, op := .mv (.t 19) }, { dst := some 20, op := .ext (.t 17) 0 }, { dst := some 21, op := .ext (.t 17) 1 }, { dst := some 6, op := .alloc (List.replicate 25 (.i .u8 0)) }, { dst := none, op := .storeN 25 (.t 6) (.t 20) }, { dst := some 7, op := .mv (.t 21) }]
def name_Unpack_c8 : ACode := .ops name_Unpack_o5
def name_Unpack_o6 : List AOper := [{ dst := some 22, op := .mv (.t 7) }, { dst := some 23, op := .bin .neq (.t 22) (.v (.c (.i .i64 0))) }, { dst := some 24, op := .mv (.t 23) }, { dst := some 25, op := .loadN 25 (.t 6), guard := some (24, false) }, { dst := some 26, op := .loadN 25 (.t 1), guard := some (24, false) }, { dst := some 27, op := .eqA true (List.replicate 25 (.i .u8)) (.t 25) (.t 26), guard := some (24, false) }, { dst := some 28, op := .pick (.t 24) (.v (.c (.b true))) (.t 27) }]
def name_Unpack_c9 : ACode := .ops name_Unpack_o6
def name_Unpack_o7 : List AOper := [{ dst := some 2, op := .mv (.v (.c (.s []))) }, { dst := some 3, op := .mv (.v (.c (.i .i64 3))) }]
def name_Unpack_c10 : ACode := .ops name_Unpack_o7
def name_Unpack_c11 : ACode := .seq [2, 3] name_Unpack_c10 .ret
def name_Unpack_c12 : ACode := .cond (.t 28) name_Unpack_c11 .skip
def name_Unpack_c13 : ACode := .seq [5, 28] name_Unpack_c9 name_Unpack_c12
def name_Unpack_c14 : ACode := .seq [1, 5, 6, 7] name_Unpack_c8 name_Unpack_c13
def name_Unpack_o8 : List AOper := [{ dst := some 29, op := .mv (.t 5) }, { dst := some 2, op := .mv (.t 29) }, { dst := some 3, op := .mv (.v (.c (.i .i64 0))) }]
def name_Unpack_c15 : ACode := .ops name_Unpack_o8
def name_Unpack_c16 : ACode := .seq [2, 3] name_Unpack_c15 .ret
def name_Unpack_c17 : ACode := .seq [5] name_Unpack_c14 name_Unpack_c16
def name_Unpack_c18 : ACode := .seq [1, 5] name_Unpack_c7 name_Unpack_c17
def name_Unpack_c19 : ACode := .seq [1, 4] name_Unpack_c6 name_Unpack_c18
def name_Unpack_c20 : ACode := .seq [1, 4] name_Unpack_c1 name_Unpack_c19
def name_Unpack_c21 : ACode := .seq [1] name_Unpack_c0 name_Unpack_c20
def A_name_Unpack : AFn := ⟨name_Unpack_c21, [.tmp 2, .tmp 3]⟩
noncomputable def E_name_Unpack : Sums := disp 46 S_name_Pack disp0
noncomputable def name_Unpack_c0_d (n : Nat) : SmV := smOps E_name_Unpack name_Unpack_o0
noncomputable def name_Unpack_c1_d (n : Nat) : SmV := smOps E_name_Unpack name_Unpack_o1
noncomputable def name_Unpack_c2_d (n : Nat) : SmV := smOps E_name_Unpack name_Unpack_o2
noncomputable def name_Unpack_c3_d (n : Nat) : SmV := smOps E_name_Unpack name_Unpack_o3
noncomputable def name_Unpack_c4_d (n : Nat) : SmV := smSeq [2, 3] (name_Unpack_c3_d n) smRet
noncomputable def name_Unpack_c5_d (n : Nat) : SmV := smCond (.t 12) (name_Unpack_c4_d n) smSkip
noncomputable def name_Unpack_c6_d (n : Nat) : SmV := smSeq [1, 4, 12] (name_Unpack_c2_d n) (name_Unpack_c5_d n)
noncomputable def name_Unpack_c7_d (n : Nat) : SmV := smOps E_name_Unpack name_Unpack_o4
noncomputable def name_Unpack_c8_d (n : Nat) : SmV := smOps E_name_Unpack name_Unpack_o5
noncomputable def name_Unpack_c9_d (n : Nat) : SmV := smOps E_name_Unpack name_Unpack_o6
noncomputable def name_Unpack_c10_d (n : Nat) : SmV := smOps E_name_Unpack name_Unpack_o7
noncomputable def name_Unpack_c11_d (n : Nat) : SmV := smSeq [2, 3] (name_Unpack_c10_d n) smRet
noncomputable def name_Unpack_c12_d (n : Nat) : SmV := smCond (.t 28) (name_Unpack_c11_d n) smSkip
noncomputable def name_Unpack_c13_d (n : Nat) : SmV := smSeq [5, 28] (name_Unpack_c9_d n) (name_Unpack_c12_d n)
noncomputable def name_Unpack_c14_d (n : Nat) : SmV := smSeq [1, 5, 6, 7] (name_Unpack_c8_d n) (name_Unpack_c13_d n)
noncomputable def name_Unpack_c15_d (n : Nat) : SmV := smOps E_name_Unpack name_Unpack_o8
noncomputable def name_Unpack_c16_d (n : Nat) : SmV := smSeq [2, 3] (name_Unpack_c15_d n) smRet
noncomputable def name_Unpack_c17_d (n : Nat) : SmV := smSeq [5] (name_Unpack_c14_d n) (name_Unpack_c16_d n)
noncomputable def name_Unpack_c18_d (n : Nat) : SmV := smSeq [1, 5] (name_Unpack_c7_d n) (name_Unpack_c17_d n)
noncomputable def name_Unpack_c19_d (n : Nat) : SmV := smSeq [1, 4] (name_Unpack_c6_d n) (name_Unpack_c18_d n)
noncomputable def name_Unpack_c20_d (n : Nat) : SmV := smSeq [1, 4] (name_Unpack_c1_d n) (name_Unpack_c19_d n)
noncomputable def name_Unpack_c21_d (n : Nat) : SmV := smSeq [1] (name_Unpack_c0_d n) (name_Unpack_c20_d n)
noncomputable def R_name_Unpack (n : Nat) (args : List Val) (h : Heap) : OptV := (name_Unpack_c21_d n) A_name_Unpack.fin (params 0 args) h
theorem R_name_Unpack_eq (n : Nat) (a0 : Val) (h : Heap) : R_name_Unpack n [a0] h = bnd (cells? a0) fun c1 => bnd (aiAddrA 25 1 ((.c (.p h.length 0))) (.c (.i .i64 0))) fun v2 => bnd (aload1 ((h ++ [some (Row.mk (c1) true)])) v2) fun v3 => bnd (aconv .i64 v3) fun v4 => bnd (abin .gtr v4 (.c (.i .i64 24))) fun v5 => cnd v5 (tupN [some (.c (.s [])), some (.c (.i .i64 3))] ((h ++ [some (Row.mk (c1) true)]))) (bnd (abin .add (.c (.i .i64 1)) v4) fun v6 => bnd (aslA ((h ++ [some (Row.mk (c1) true)])) 25 1 ((.c (.p h.length 0))) (some (.c (.i .i64 1))) (some v6)) fun v7 => bnd (ab2s ((h ++ [some (Row.mk (c1) true)])) v7) fun v8 => bnd (S_name_Pack [v8] ((h ++ [some (Row.mk (c1) true)]))) fun p9 => bnd (aext p9.1 0) fun v10 => bnd (aext p9.1 1) fun v11 => bnd (astoreN ((p9.2 ++ [some (Row.mk (List.replicate 25 (.i .u8 0)) true)])) 25 ((.c (.p p9.2.length 0))) v10) fun h12 => bnd (abin .neq v11 (.c (.i .i64 0))) fun v13 => bnd (gd v13 false (bnd (aloadN h12 25 ((.c (.p p9.2.length 0)))) fun v14 => some (v14, h12)) (some (.no, h12))) fun p15 => bnd (gd v13 false (bnd (aloadN p15.2 25 ((.c (.p h.length 0)))) fun v16 => some (v16, p15.2)) (some (.no, p15.2))) fun p17 => bnd (gd v13 false (bnd (aeq true (List.replicate 25 (.i .u8)) p15.1 p17.1) fun v18 => some (v18, p17.2)) (some (.no, p17.2))) fun p19 => bnd (apick v13 (.c (.b true)) p19.1) fun v20 => cnd v20 (tupN [some (.c (.s [])), some (.c (.i .i64 3))] p19.2) (tupN [some v8, some (.c (.i .i64 0))] p19.2)) := by kernel_rfl
theorem K_name_Unpack : FnK Try.prog 49 A_name_Unpack E_name_Unpack R_name_Unpack := .mk' (sound1 S_name_Pack_ok sound0) Try.func49 (by kernel_rfl) (by intro n args h; kernel_rfl)
noncomputable def S_name_Unpack : Fun := tidy (Lim A_name_Unpack E_name_Unpack)
theorem S_name_Unpack_ok : SOk Try.prog 49 S_name_Unpack := K_name_Unpack.sok
theorem S_name_Unpack_flat {n : Nat} {args : List Val} {h h2 : Heap} {v : Val} (he : R_name_Unpack n args (ro h) = some (v, h2)) (hf : v.flat = true) : S_name_Unpack args h = some (v, h) := K_name_Unpack.flat he hf
def name_Place_o0 : List AOper := [{ dst := some 4, op := .mv (.v (.c (.i .i64 0))) }, { dst := some 5, op := .mv (.v (.c (.b false))) }]
def name_Place_c0 : ACode := .ops name_Place_o0
def name_Place_o1 : List AOper := [{ dst := some 9, op := .mv (.t 0) }, { dst := some 10, op := .len (.t 9) }, { dst := some 6, op := .mv (.v (.c (.i .i64 0))) }, { dst := some 7, op := .mv (.t 10) }]
def name_Place_c1 : ACode := .ops name_Place_o1
def name_Place_o2 : List AOper := [{ dst := some 11, op := .mv (.t 6) }, { dst := some 12, op := .mv (.t 7) }, { dst := some 13, op := .bin .lss (.t 11) (.t 12) }]
def name_Place_c2 : ACode := .ops name_Place_o2
def name_Place_c3 : ACode := .cond (.t 13) .skip (.exit 0)
def name_Place_c4 : ACode := .seq [0, 1, 6, 7, 13] name_Place_c2 name_Place_c3
def name_Place_o3 : List AOper := [{ dst := some 14, op := .mv (.t 6) }, { dst := some 15, op := .mv (.t 7) }, { dst := some 16, op := .mv (.t 6) }, { dst := some 17, op := .bin .sub (.t 15) (.t 16) }, { dst := some 18, op := .bin .quo (.t 17) (.v (.c (.i .i64 2))) }, { dst := some 19, op := .bin .add (.t 14) (.t 18) }, { dst := some 8, op := .mv (.t 19) }]
def name_Place_c5 : ACode := .ops name_Place_o3
def name_Place_o4 : List AOper := [{ dst := some 20, op := .mv (.t 0) }, { dst := some 21, op := .mv (.t 8) }, { dst := some 22, op := .iAddrL 1 (.t 20) (.t 21) }, { dst := some 23, op := .load1 (.t 22) }, { dst := some 24, op := .mv (.t 1) }, { dst := some 25, op := .call 44 [(.t 23), (.t 24)] }]
def name_Place_c6 : ACode := .ops name_Place_o4
def name_Place_o5 : List AOper := [{ dst := some 26, op := .mv (.t 8) }, { dst := some 27, op := .bin .add (.t 26) (.v (.c (.i .i64 1))) }, { dst := some 6, op := .mv (.t 27) }]
def name_Place_c7 : ACode := .ops name_Place_o5
def name_Place_o6 : List AOper := [{ dst := some 28, op := .mv (.t 8) }, { dst := some 7, op := .mv (.t 28) }]
def name_Place_c8 : ACode := .ops name_Place_o6
def name_Place_c9 : ACode := .cond (.t 25) name_Place_c7 name_Place_c8
def name_Place_c10 : ACode := .seq [0, 1, 6, 7, 8, 25] name_Place_c6 name_Place_c9
def name_Place_c11 : ACode := .seq [0, 1, 6, 7, 8] name_Place_c5 name_Place_c10
def name_Place_c12 : ACode := .block 1 name_Place_c11
def name_Place_c13 : ACode := .seq [0, 1, 6, 7] name_Place_c4 name_Place_c12
def name_Place_c14 : ACode := .loop [0, 1, 6, 7] name_Place_c13
def name_Place_c15 : ACode := .block 0 name_Place_c14
def name_Place_o7 : List AOper := [{ dst := some 29, op := .mv (.t 6) }, { dst := some 30, op := .mv (.t 6) }, { dst := some 31, op := .mv (.t 0) }, { dst := some 32, op := .len (.t 31) }, { dst := some 33, op := .bin .lss (.t 30) (.t 32) }, { dst := some 34, op := .mv (.t 33) }, { dst := some 35, op := .mv (.t 0), guard := some (34, true) }, { dst := some 36, op := .mv (.t 6), guard := some (34, true) }, { dst := some 37, op := .iAddrL 1 (.t 35) (.t 36), guard := some (34, true) }, { dst := some 38, op := .load1 (.t 37), guard := some (34, true) }, { dst := some 39, op := .mv (.t 1), guard := some (34, true) }, { dst := some 40, op := .bin .eql (.t 38) (.t 39), guard := some (34, true) }, { dst := some 41, op := .pick (.t 34) (.t 40) (.v (.c (.b false))) }, { dst := some 4, op := .mv (.t 29) }]
def name_Place_o8 : List AOper := [{ dst := some 5, op := .mv (.t 41) }]
def name_Place_c16 : ACode := .draw 0 name_Place_o7 name_Place_o8
def name_Place_c17 : ACode := .seq [4, 5] name_Place_c16 .ret
def name_Place_c18 : ACode := .seq [0, 1, 6] name_Place_c15 name_Place_c17
def name_Place_c19 : ACode := .seq [0, 1, 6, 7] name_Place_c1 name_Place_c18
def name_Place_c20 : ACode := .seq [0, 1] name_Place_c0 name_Place_c19
def A_name_Place : AFn := ⟨name_Place_c20, [.tmp 4, .tmp 5]⟩
noncomputable def E_name_Place : Sums := disp 44 S_name_Less disp0
noncomputable def name_Place_c0_d (n : Nat) : SmV := smOps E_name_Place name_Place_o0
noncomputable def name_Place_c1_d (n : Nat) : SmV := smOps E_name_Place name_Place_o1
noncomputable def name_Place_c2_d (n : Nat) : SmV := smOps E_name_Place name_Place_o2
noncomputable def name_Place_c3_d (n : Nat) : SmV := smCond (.t 13) smSkip (smExit 0)
noncomputable def name_Place_c4_d (n : Nat) : SmV := smSeq [0, 1, 6, 7, 13] (name_Place_c2_d n) (name_Place_c3_d n)
noncomputable def name_Place_c5_d (n : Nat) : SmV := smOps E_name_Place name_Place_o3
noncomputable def name_Place_c6_d (n : Nat) : SmV := smOps E_name_Place name_Place_o4
noncomputable def name_Place_c7_d (n : Nat) : SmV := smOps E_name_Place name_Place_o5
noncomputable def name_Place_c8_d (n : Nat) : SmV := smOps E_name_Place name_Place_o6
noncomputable def name_Place_c9_d (n : Nat) : SmV := smCond (.t 25) (name_Place_c7_d n) (name_Place_c8_d n)
noncomputable def name_Place_c10_d (n : Nat) : SmV := smSeq [0, 1, 6, 7, 8, 25] (name_Place_c6_d n) (name_Place_c9_d n)
noncomputable def name_Place_c11_d (n : Nat) : SmV := smSeq [0, 1, 6, 7, 8] (name_Place_c5_d n) (name_Place_c10_d n)
noncomputable def name_Place_c12_d (n : Nat) : SmV := smBlock 1 (name_Place_c11_d n)
noncomputable def name_Place_c13_d (n : Nat) : SmV := smSeq [0, 1, 6, 7] (name_Place_c4_d n) (name_Place_c12_d n)
noncomputable def name_Place_c14_d (n : Nat) : SmV := smLoop n [0, 1, 6, 7] (name_Place_c13_d n)
noncomputable def name_Place_c15_d (n : Nat) : SmV := smBlock 0 (name_Place_c14_d n)
noncomputable def name_Place_c16_d (n : Nat) : SmV := smDraw E_name_Place 0 name_Place_o7 name_Place_o8
noncomputable def name_Place_c17_d (n : Nat) : SmV := smSeq [4, 5] (name_Place_c16_d n) smRet
noncomputable def name_Place_c18_d (n : Nat) : SmV := smSeq [0, 1, 6] (name_Place_c15_d n) (name_Place_c17_d n)
noncomputable def name_Place_c19_d (n : Nat) : SmV := smSeq [0, 1, 6, 7] (name_Place_c1_d n) (name_Place_c18_d n)
noncomputable def name_Place_c20_d (n : Nat) : SmV := smSeq [0, 1] (name_Place_c0_d n) (name_Place_c19_d n)
noncomputable def name_Place_k0 (n : Nat) : AExit → Env → Heap → OptV := fun x e h => match x with | .normal => hold ((name_Place_c17_d n) A_name_Place.fin (e.keep [0, 1, 6]) h) | .exit id => A_name_Place.fin (.exit id) e h | .ret => A_name_Place.fin .ret e h
noncomputable def name_Place_k1 (n : Nat) : AExit → Env → Heap → OptV := fun x e h => match x with | .exit i => bif Nat.beq i 0 then (name_Place_k0 n) .normal e h else (name_Place_k0 n) (.exit i) e h | .normal => (name_Place_k0 n) .normal e h | .ret => (name_Place_k0 n) .ret e h
noncomputable def name_Place_l0 (n m : Nat) (x0 x1 x6 x7 : Val) (h : Heap) : OptV := around (name_Place_c13_d n) [0, 1, 6, 7] (name_Place_k1 n) m [(0, x0), (1, x1), (6, x6), (7, x7)] h
noncomputable def R_name_Place (n : Nat) (args : List Val) (h : Heap) : OptV := (name_Place_c20_d n) A_name_Place.fin (params 0 args) h
theorem R_name_Place_eq (n : Nat) (a0 a1 : Val) (h : Heap) : R_name_Place n [a0, a1] h = bnd (alen a0) fun v1 => name_Place_l0 n n a0 a1 (.c (.i .i64 0)) v1 h := by kernel_rfl
theorem name_Place_l0_eq (n m : Nat) (x0 x1 x6 x7 : Val) (h : Heap) : name_Place_l0 n (m + 1) x0 x1 x6 x7 h = bnd (abin .lss x6 x7) fun v2 => cnd v2 (bnd (abin .sub x7 x6) fun v3 => bnd (abin .quo v3 (.c (.i .i64 2))) fun v4 => bnd (abin .add x6 v4) fun v5 => bnd (aiAddrL 1 x0 v5) fun v6 => bnd (aload1 h v6) fun v7 => bnd (S_name_Less [v7, x1] h) fun p8 => cnd p8.1 (bnd (abin .add v5 (.c (.i .i64 1))) fun v9 => name_Place_l0 n m x0 x1 v9 x7 p8.2) (name_Place_l0 n m x0 x1 x6 v5 p8.2)) (bnd (alen x0) fun v10 => bnd (abin .lss x6 v10) fun v11 => bnd (gd v11 true (some (x0, (h ++ []))) (some (.no, (h ++ [])))) fun p12 => bnd (gd v11 true (some (x6, p12.2)) (some (.no, p12.2))) fun p13 => bnd (gd v11 true (bnd (aiAddrL 1 p12.1 p13.1) fun v14 => some (v14, p13.2)) (some (.no, p13.2))) fun p15 => bnd (gd v11 true (bnd (aload1 h p15.1) fun v16 => some (v16, p15.2)) (some (.no, p15.2))) fun p17 => bnd (gd v11 true (some (x1, p17.2)) (some (.no, p17.2))) fun p18 => bnd (gd v11 true (bnd (abin .eql p17.1 p18.1) fun v19 => some (v19, p18.2)) (some (.no, p18.2))) fun p20 => bnd (apick v11 p20.1 (.c (.b false))) fun v21 => tupN [some x6, some v21] p20.2) := by kernel_rfl
theorem K_name_Place : FnK Try.prog 76 A_name_Place E_name_Place R_name_Place := .mk' (sound1 S_name_Less_ok sound0) Try.func76 (by kernel_rfl) (by intro n args h; kernel_rfl)
noncomputable def S_name_Place : Fun := tidy (Lim A_name_Place E_name_Place)
theorem S_name_Place_ok : SOk Try.prog 76 S_name_Place := K_name_Place.sok
theorem S_name_Place_flat {n : Nat} {args : List Val} {h h2 : Heap} {v : Val} (he : R_name_Place n args (ro h) = some (v, h2)) (hf : v.flat = true) : S_name_Place args h = some (v, h) := K_name_Place.flat he hf
def name_Sort_o0 : List AOper := [{ dst := some 2, op := .nilrow 1 }]
def name_Sort_c0 : ACode := .ops name_Sort_o0
def name_Sort_o1 : List AOper := [{ dst := some 3, op := .nilrow 1 }]
def name_Sort_c1 : ACode := .ops name_Sort_o1
def name_Sort_o2 : List AOper := [{ dst := some 8, op := .mv (.t 0) }, { dst := some 9, op := .len (.t 8) }, { dst := some 10, op := .mv (.v (.c (.i .i64 0))) }]
def name_Sort_c2 : ACode := .ops name_Sort_o2
def name_Sort_o3 : List AOper := [{ dst := some 11, op := .bin .lss (.t 10) (.t 9) }]
def name_Sort_c3 : ACode := .ops name_Sort_o3
def name_Sort_c4 : ACode := .cond (.t 11) .skip (.exit 0)
def name_Sort_o4 : List AOper := [{ dst := some 12, op := .iAddrL 1 (.t 8) (.t 10) }, { dst := some 13, op := .load1 (.t 12) }, { dst := some 5, op := .mv (.t 13) }]
def name_Sort_c5 : ACode := .ops name_Sort_o4
def name_Sort_o5 : List AOper := [{ dst := some 15, op := .mv (.t 3) }, { dst := some 16, op := .mv (.t 5) }, { dst := some 17, op := .call 76 [(.t 15), (.t 16)] }, { dst := some 14, op := .mv (.t 17) }, { dst := some 18, op := .ext (.t 14) 0 }, { dst := some 19, op := .ext (.t 14) 1 }, { dst := some 6, op := .mv (.t 18) }, { dst := some 7, op := .mv (.t 19) }]
def name_Sort_c6 : ACode := .ops name_Sort_o5
def name_Sort_o6 : List AOper := [{ dst := some 20, op := .mv (.t 7) }]
def name_Sort_c7 : ACode := .ops name_Sort_o6
def name_Sort_c8 : ACode := .cond (.t 20) (.exit 1) .skip
def name_Sort_c9 : ACode := .seq [3, 5, 6, 8, 9, 10, 20] name_Sort_c7 name_Sort_c8
def name_Sort_o7 : List AOper := [{ dst := some 21, op := .mv (.t 3) }, { dst := some 22, op := .buildSl 1 1 ([.s []]) [(0, 1, (.v (.c (.s []))))] }, { dst := some 23, op := .app 1 (.t 21) (.t 22) }, { dst := some 3, op := .mv (.t 23) }]
def name_Sort_c10 : ACode := .ops name_Sort_o7
def name_Sort_o8 : List AOper := [{ dst := some 24, op := .mv (.t 3) }, { dst := some 25, op := .mv (.t 6) }, { dst := some 26, op := .bin .add (.t 25) (.v (.c (.i .i64 1))) }, { dst := some 27, op := .slL 1 (.t 24) (some (.t 26)) none }, { dst := some 28, op := .mv (.t 3) }, { dst := some 29, op := .mv (.t 6) }, { dst := some 30, op := .slL 1 (.t 28) (some (.t 29)) none }]
def name_Sort_o9 : List AOper := [{ dst := some 31, op := .copy 1 (.t 27) (.t 30) }]
def name_Sort_c11 : ACode := .draw 0 name_Sort_o8 name_Sort_o9
def name_Sort_o10 : List AOper := [{ dst := some 32, op := .mv (.t 3) }, { dst := some 33, op := .mv (.t 6) }, { dst := some 34, op := .mv (.t 5) }, { dst := some 35, op := .iAddrL 1 (.t 32) (.t 33) }, { dst := none, op := .store1 (.t 35) (.t 34) }]
def name_Sort_c12 : ACode := .ops name_Sort_o10
def name_Sort_c13 : ACode := .seq [3, 5, 6, 8, 9, 10] name_Sort_c11 name_Sort_c12
def name_Sort_c14 : ACode := .seq [3, 5, 6, 8, 9, 10] name_Sort_c10 name_Sort_c13
def name_Sort_c15 : ACode := .seq [3, 5, 6, 8, 9, 10] name_Sort_c9 name_Sort_c14
def name_Sort_c16 : ACode := .seq [3, 5, 6, 7, 8, 9, 10] name_Sort_c6 name_Sort_c15
def name_Sort_c17 : ACode := .seq [3, 5, 8, 9, 10] name_Sort_c5 name_Sort_c16
def name_Sort_c18 : ACode := .block 1 name_Sort_c17
def name_Sort_o11 : List AOper := [{ dst := some 36, op := .bin .add (.t 10) (.v (.c (.i .i64 1))) }, { dst := some 10, op := .mv (.t 36) }]
def name_Sort_c19 : ACode := .ops name_Sort_o11
def name_Sort_c20 : ACode := .seq [3, 8, 9, 10] name_Sort_c18 name_Sort_c19
def name_Sort_c21 : ACode := .seq [3, 8, 9, 10] name_Sort_c4 name_Sort_c20
def name_Sort_c22 : ACode := .seq [3, 8, 9, 10, 11] name_Sort_c3 name_Sort_c21
def name_Sort_c23 : ACode := .loop [3, 8, 9, 10] name_Sort_c22
def name_Sort_c24 : ACode := .block 0 name_Sort_c23
def name_Sort_c25 : ACode := .seq [3, 8, 9, 10] name_Sort_c2 name_Sort_c24
def name_Sort_o12 : List AOper := [{ dst := some 37, op := .mv (.t 3) }, { dst := some 2, op := .mv (.t 37) }]
def name_Sort_c26 : ACode := .ops name_Sort_o12
def name_Sort_c27 : ACode := .seq [2] name_Sort_c26 .ret
def name_Sort_c28 : ACode := .seq [3] name_Sort_c25 name_Sort_c27
def name_Sort_c29 : ACode := .seq [0, 3] name_Sort_c1 name_Sort_c28
def name_Sort_c30 : ACode := .seq [0] name_Sort_c0 name_Sort_c29
def A_name_Sort : AFn := ⟨name_Sort_c30, [.tmp 2]⟩
noncomputable def E_name_Sort : Sums := disp 76 S_name_Place disp0
noncomputable def name_Sort_c0_d (n : Nat) : SmV := smOps E_name_Sort name_Sort_o0
noncomputable def name_Sort_c1_d (n : Nat) : SmV := smOps E_name_Sort name_Sort_o1
noncomputable def name_Sort_c2_d (n : Nat) : SmV := smOps E_name_Sort name_Sort_o2
noncomputable def name_Sort_c3_d (n : Nat) : SmV := smOps E_name_Sort name_Sort_o3
noncomputable def name_Sort_c4_d (n : Nat) : SmV := smCond (.t 11) smSkip (smExit 0)
noncomputable def name_Sort_c5_d (n : Nat) : SmV := smOps E_name_Sort name_Sort_o4
noncomputable def name_Sort_c6_d (n : Nat) : SmV := smOps E_name_Sort name_Sort_o5
noncomputable def name_Sort_c7_d (n : Nat) : SmV := smOps E_name_Sort name_Sort_o6
noncomputable def name_Sort_c8_d (n : Nat) : SmV := smCond (.t 20) (smExit 1) smSkip
noncomputable def name_Sort_c9_d (n : Nat) : SmV := smSeq [3, 5, 6, 8, 9, 10, 20] (name_Sort_c7_d n) (name_Sort_c8_d n)
noncomputable def name_Sort_c10_d (n : Nat) : SmV := smOps E_name_Sort name_Sort_o7
noncomputable def name_Sort_c11_d (n : Nat) : SmV := smDraw E_name_Sort 0 name_Sort_o8 name_Sort_o9
noncomputable def name_Sort_c12_d (n : Nat) : SmV := smOps E_name_Sort name_Sort_o10
noncomputable def name_Sort_c13_d (n : Nat) : SmV := smSeq [3, 5, 6, 8, 9, 10] (name_Sort_c11_d n) (name_Sort_c12_d n)
noncomputable def name_Sort_c14_d (n : Nat) : SmV := smSeq [3, 5, 6, 8, 9, 10] (name_Sort_c10_d n) (name_Sort_c13_d n)
noncomputable def name_Sort_c15_d (n : Nat) : SmV := smSeq [3, 5, 6, 8, 9, 10] (name_Sort_c9_d n) (name_Sort_c14_d n)
noncomputable def name_Sort_c16_d (n : Nat) : SmV := smSeq [3, 5, 6, 7, 8, 9, 10] (name_Sort_c6_d n) (name_Sort_c15_d n)
noncomputable def name_Sort_c17_d (n : Nat) : SmV := smSeq [3, 5, 8, 9, 10] (name_Sort_c5_d n) (name_Sort_c16_d n)
noncomputable def name_Sort_c18_d (n : Nat) : SmV := smBlock 1 (name_Sort_c17_d n)
noncomputable def name_Sort_c19_d (n : Nat) : SmV := smOps E_name_Sort name_Sort_o11
noncomputable def name_Sort_c20_d (n : Nat) : SmV := smSeq [3, 8, 9, 10] (name_Sort_c18_d n) (name_Sort_c19_d n)
noncomputable def name_Sort_c21_d (n : Nat) : SmV := smSeq [3, 8, 9, 10] (name_Sort_c4_d n) (name_Sort_c20_d n)
noncomputable def name_Sort_c22_d (n : Nat) : SmV := smSeq [3, 8, 9, 10, 11] (name_Sort_c3_d n) (name_Sort_c21_d n)
noncomputable def name_Sort_c23_d (n : Nat) : SmV := smLoop n [3, 8, 9, 10] (name_Sort_c22_d n)
noncomputable def name_Sort_c24_d (n : Nat) : SmV := smBlock 0 (name_Sort_c23_d n)
noncomputable def name_Sort_c25_d (n : Nat) : SmV := smSeq [3, 8, 9, 10] (name_Sort_c2_d n) (name_Sort_c24_d n)
noncomputable def name_Sort_c26_d (n : Nat) : SmV := smOps E_name_Sort name_Sort_o12
noncomputable def name_Sort_c27_d (n : Nat) : SmV := smSeq [2] (name_Sort_c26_d n) smRet
noncomputable def name_Sort_c28_d (n : Nat) : SmV := smSeq [3] (name_Sort_c25_d n) (name_Sort_c27_d n)
noncomputable def name_Sort_c29_d (n : Nat) : SmV := smSeq [0, 3] (name_Sort_c1_d n) (name_Sort_c28_d n)
noncomputable def name_Sort_c30_d (n : Nat) : SmV := smSeq [0] (name_Sort_c0_d n) (name_Sort_c29_d n)
noncomputable def name_Sort_k0 (n : Nat) : AExit → Env → Heap → OptV := fun x e h => match x with | .normal => hold ((name_Sort_c27_d n) A_name_Sort.fin (e.keep [3]) h) | .exit id => A_name_Sort.fin (.exit id) e h | .ret => A_name_Sort.fin .ret e h
noncomputable def name_Sort_k1 (n : Nat) : AExit → Env → Heap → OptV := fun x e h => match x with | .exit i => bif Nat.beq i 0 then (name_Sort_k0 n) .normal e h else (name_Sort_k0 n) (.exit i) e h | .normal => (name_Sort_k0 n) .normal e h | .ret => (name_Sort_k0 n) .ret e h
noncomputable def name_Sort_l0 (n m : Nat) (x3 x8 x9 x10 : Val) (h : Heap) : OptV := around (name_Sort_c22_d n) [3, 8, 9, 10] (name_Sort_k1 n) m [(3, x3), (8, x8), (9, x9), (10, x10)] h
noncomputable def R_name_Sort (n : Nat) (args : List Val) (h : Heap) : OptV := (name_Sort_c30_d n) A_name_Sort.fin (params 0 args) h
noncomputable def name_Sort_k2 (n m : Nat) : AExit → Env → Heap → OptV := fun x e h => match x with | .normal => around (name_Sort_c22_d n) [3, 8, 9, 10] (name_Sort_k1 n) m (e.keep [3, 8, 9, 10]) h | .exit id => (name_Sort_k1 n) (.exit id) e h | .ret => (name_Sort_k1 n) .ret e h
noncomputable def name_Sort_j0 (n m : Nat) (x3 x8 x9 x10 : Val) (h : Heap) : OptV := hold ((name_Sort_c19_d n) (name_Sort_k2 n m) [(3, x3), (8, x8), (9, x9), (10, x10)] h)
theorem R_name_Sort_eq (n : Nat) (a0 : Val) (h : Heap) : R_name_Sort n [a0] h = bnd (alen a0) fun v1 => name_Sort_l0 n n ((.c (.sl ((h ++ [some (Row.mk ([]) true)])).length 0 0 1))) a0 v1 (.c (.i .i64 0)) (((h ++ [some (Row.mk ([]) true)]) ++ [some (Row.mk ([]) true)])) := by kernel_rfl
theorem name_Sort_l0_eq (n m : Nat) (x3 x8 x9 x10 : Val) (h : Heap) : name_Sort_l0 n (m + 1) x3 x8 x9 x10 h = bnd (abin .lss x10 x9) fun v2 => cnd v2 (bnd (aiAddrL 1 x8 x10) fun v3 => bnd (aload1 h v3) fun v4 => bnd (S_name_Place [x3, v4] h) fun p5 => bnd (aext p5.1 0) fun v6 => bnd (aext p5.1 1) fun v7 => cnd v7 (name_Sort_j0 n m x3 x8 x9 x10 p5.2) (bnd (afill ([.s []]) [(0, 1, .c (.s []))]) fun c8 => bnd (aapp ((p5.2 ++ [some (Row.mk (c8) true)])) 1 x3 ((.c (.sl p5.2.length 0 1 1)))) fun p9 => bnd (abin .add v6 (.c (.i .i64 1))) fun v10 => bnd (aslL 1 p9.1 (some v10) none) fun v11 => bnd (aslL 1 p9.1 (some v6) none) fun v12 => bnd (acopy ((p9.2 ++ [])) 1 v11 v12) fun p13 => bnd (aiAddrL 1 p9.1 v6) fun v14 => bnd (astore1 p13.2 v14 v4) fun h15 => name_Sort_j0 n m p9.1 x8 x9 x10 h15)) (some (x3, h)) := by kernel_rfl
theorem name_Sort_j0_eq (n m : Nat) (x3 x8 x9 x10 : Val) (h : Heap) : name_Sort_j0 n m x3 x8 x9 x10 h = bnd (abin .add x10 (.c (.i .i64 1))) fun v16 => name_Sort_l0 n m x3 x8 x9 v16 h := by kernel_rfl
theorem K_name_Sort : FnK Try.prog 75 A_name_Sort E_name_Sort R_name_Sort := .mk' (sound1 S_name_Place_ok sound0) Try.func75 (by kernel_rfl) (by intro n args h; kernel_rfl)
noncomputable def S_name_Sort : Fun := tidy (Lim A_name_Sort E_name_Sort)
theorem S_name_Sort_ok : SOk Try.prog 75 S_name_Sort := K_name_Sort.sok
theorem S_name_Sort_low {n : Nat} {args : List Val} {h h2 : Heap} {v : Val} (he : R_name_Sort n args (ro h) = some (v, h2)) (hf : v.low h.length = true) : S_name_Sort args h = some (v, h) := K_name_Sort.low he hf
theorem S_name_Sort_out {n : Nat} {args : List Val} {h h2 : Heap} {v : Val} {sz k : Nat} {cs : List Cell} (he : R_name_Sort n args (ro h) = some (v, h2)) (ho : Out h.length h2 v sz k cs) (hf : flats cs = true) : S_name_Sort args h = some (.c (.sl h.length 0 k sz), h ++ [some ⟨cs, true⟩]) := K_name_Sort.out he ho hf
end Go.Proofs.Ytbbkpmbepljhkaa
