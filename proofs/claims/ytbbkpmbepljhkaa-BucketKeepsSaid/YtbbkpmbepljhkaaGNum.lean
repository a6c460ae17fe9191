/- Num: the Go functions of this package as the abstract evaluator computes them: printed by a program, checked by Lean. -/
import Derived.Test.YtbbkpmbepljhkaaEscS
import Derived.Test.YtbbkpmbepljhkaaChecked
import Derived.KernelRfl
namespace Go.Proofs.Ytbbkpmbepljhkaa
open Go Go.Esc
set_option maxRecDepth 100000
set_option linter.all false
def num_there_o0 : List AOper := [{ dst := some 6, op := .mv (.v (.c (.b false))) }]
def num_there_c0 : ACode := .ops num_there_o0
def num_there_o1 : List AOper := [{ dst := some 7, op := .mv (.t 0) }, { dst := some 8, op := .bin .geq (.t 7) (.v (.c (.i .i64 0))) }, { dst := some 9, op := .mv (.t 8) }, { dst := some 10, op := .mv (.t 1), guard := some (9, true) }, { dst := some 11, op := .bin .geq (.t 10) (.v (.c (.i .i64 1))), guard := some (9, true) }, { dst := some 12, op := .pick (.t 9) (.t 11) (.v (.c (.b false))) }, { dst := some 13, op := .mv (.t 12) }, { dst := some 14, op := .mv (.t 1), guard := some (13, true) }, { dst := some 15, op := .mv (.t 2), guard := some (13, true) }, { dst := some 16, op := .bin .leq (.t 14) (.t 15), guard := some (13, true) }, { dst := some 17, op := .pick (.t 13) (.t 16) (.v (.c (.b false))) }, { dst := some 18, op := .mv (.t 17) }, { dst := some 19, op := .mv (.t 0), guard := some (18, true) }, { dst := some 20, op := .mv (.t 2), guard := some (18, true) }, { dst := some 21, op := .mv (.t 1), guard := some (18, true) }, { dst := some 22, op := .bin .sub (.t 20) (.t 21), guard := some (18, true) }, { dst := some 23, op := .bin .leq (.t 19) (.t 22), guard := some (18, true) }, { dst := some 24, op := .pick (.t 18) (.t 23) (.v (.c (.b false))) }, { dst := some 6, op := .mv (.t 24) }]
def num_there_c1 : ACode := .ops num_there_o1
def num_there_c2 : ACode := .seq [6] num_there_c1 .ret
def num_there_c3 : ACode := .seq [0, 1, 2] num_there_c0 num_there_c2
def A_num_there : AFn := ⟨num_there_c3, [.tmp 6]⟩
noncomputable def E_num_there : Sums := disp0
noncomputable def num_there_c0_d (n : Nat) : SmV := smOps E_num_there num_there_o0
noncomputable def num_there_c1_d (n : Nat) : SmV := smOps E_num_there num_there_o1
noncomputable def num_there_c2_d (n : Nat) : SmV := smSeq [6] (num_there_c1_d n) smRet
noncomputable def num_there_c3_d (n : Nat) : SmV := smSeq [0, 1, 2] (num_there_c0_d n) (num_there_c2_d n)
noncomputable def R_num_there (n : Nat) (args : List Val) (h : Heap) : OptV := (num_there_c3_d n) A_num_there.fin (params 0 args) h
theorem R_num_there_eq (n : Nat) (a0 a1 a2 : Val) (h : Heap) : R_num_there n [a0, a1, a2] h = bnd (abin .geq a0 (.c (.i .i64 0))) fun v1 => bnd (gd v1 true (some (a1, h)) (some (.no, h))) fun p2 => bnd (gd v1 true (bnd (abin .geq p2.1 (.c (.i .i64 1))) fun v3 => some (v3, p2.2)) (some (.no, p2.2))) fun p4 => bnd (apick v1 p4.1 (.c (.b false))) fun v5 => bnd (gd v5 true (some (a1, p4.2)) (some (.no, p4.2))) fun p6 => bnd (gd v5 true (some (a2, p6.2)) (some (.no, p6.2))) fun p7 => bnd (gd v5 true (bnd (abin .leq p6.1 p7.1) fun v8 => some (v8, p7.2)) (some (.no, p7.2))) fun p9 => bnd (apick v5 p9.1 (.c (.b false))) fun v10 => bnd (gd v10 true (some (a0, p9.2)) (some (.no, p9.2))) fun p11 => bnd (gd v10 true (some (a2, p11.2)) (some (.no, p11.2))) fun p12 => bnd (gd v10 true (some (a1, p12.2)) (some (.no, p12.2))) fun p13 => bnd (gd v10 true (bnd (abin .sub p12.1 p13.1) fun v14 => some (v14, p13.2)) (some (.no, p13.2))) fun p15 => bnd (gd v10 true (bnd (abin .leq p11.1 p15.1) fun v16 => some (v16, p15.2)) (some (.no, p15.2))) fun p17 => bnd (apick v10 p17.1 (.c (.b false))) fun v18 => some (v18, p17.2) := by kernel_rfl
theorem K_num_there : FnK Try.prog 174 A_num_there E_num_there R_num_there := .mk' (sound0) Try.func174 (by kernel_rfl) (by intro n args h; kernel_rfl)
noncomputable def S_num_there : Fun := tidy (Lim A_num_there E_num_there)
theorem S_num_there_ok : SOk Try.prog 174 S_num_there := K_num_there.sok
theorem S_num_there_flat {n : Nat} {args : List Val} {h h2 : Heap} {v : Val} (he : R_num_there n args (ro h) = some (v, h2)) (hf : v.flat = true) : S_num_there args h = some (v, h) := K_num_there.flat he hf
def num_With_o0 : List AOper := [{ dst := some 4, op := .box (.t 0) }, { dst := some 8, op := .alloc (List.replicate 256 (.i .u8 0)) }]
def num_With_c0 : ACode := .ops num_With_o0
def num_With_o1 : List AOper := [{ dst := some 10, op := .mv (.t 2) }, { dst := some 11, op := .bin .gtr (.t 10) (.v (.c (.i .i64 4))) }, { dst := some 12, op := .mv (.t 11) }, { dst := some 13, op := .mv (.t 1), guard := some (12, false) }, { dst := some 14, op := .mv (.t 2), guard := some (12, false) }, { dst := some 15, op := .call 174 [(.t 13), (.t 14), (.v (.c (.i .i64 256)))], guard := some (12, false) }, { dst := some 16, op := .un .not (.t 15), guard := some (12, false) }, { dst := some 17, op := .pick (.t 12) (.v (.c (.b true))) (.t 16) }]
def num_With_c1 : ACode := .ops num_With_o1
def num_With_o2 : List AOper := [{ dst := some 18, op := .loadN 256 (.t 4) }, { dst := none, op := .storeN 256 (.t 8) (.t 18) }]
def num_With_c2 : ACode := .ops num_With_o2
def num_With_c3 : ACode := .seq [8] num_With_c2 .ret
def num_With_c4 : ACode := .cond (.t 17) num_With_c3 .skip
def num_With_c5 : ACode := .seq [1, 2, 3, 4, 8, 17] num_With_c1 num_With_c4
def num_With_o3 : List AOper := [{ dst := some 19, op := .mv (.t 2) }, { dst := some 20, op := .mv (.v (.c (.i .i64 0))) }]
def num_With_c6 : ACode := .ops num_With_o3
def num_With_o4 : List AOper := [{ dst := some 21, op := .bin .lss (.t 20) (.t 19) }]
def num_With_c7 : ACode := .ops num_With_o4
def num_With_c8 : ACode := .cond (.t 21) .skip (.exit 0)
def num_With_o5 : List AOper := [{ dst := some 22, op := .mv (.t 20) }, { dst := some 9, op := .mv (.t 22) }]
def num_With_c9 : ACode := .ops num_With_o5
def num_With_o6 : List AOper := [{ dst := some 23, op := .mv (.t 1) }, { dst := some 24, op := .mv (.t 9) }, { dst := some 25, op := .bin .add (.t 23) (.t 24) }, { dst := some 26, op := .mv (.t 3) }, { dst := some 27, op := .mv (.t 9) }, { dst := some 28, op := .bin .mul (.v (.c (.i .i64 8))) (.t 27) }, { dst := some 29, op := .conv .u64 (.t 28) }, { dst := some 30, op := .bin .shr (.t 26) (.t 29) }, { dst := some 31, op := .conv .u8 (.t 30) }, { dst := some 32, op := .iAddrA 256 1 (.t 4) (.t 25) }, { dst := none, op := .store1 (.t 32) (.t 31) }]
def num_With_c10 : ACode := .ops num_With_o6
def num_With_c11 : ACode := .seq [1, 3, 4, 8, 9, 19, 20] num_With_c9 num_With_c10
def num_With_c12 : ACode := .block 1 num_With_c11
def num_With_o7 : List AOper := [{ dst := some 33, op := .bin .add (.t 20) (.v (.c (.i .i64 1))) }, { dst := some 20, op := .mv (.t 33) }]
def num_With_c13 : ACode := .ops num_With_o7
def num_With_c14 : ACode := .seq [1, 3, 4, 8, 19, 20] num_With_c12 num_With_c13
def num_With_c15 : ACode := .seq [1, 3, 4, 8, 19, 20] num_With_c8 num_With_c14
def num_With_c16 : ACode := .seq [1, 3, 4, 8, 19, 20, 21] num_With_c7 num_With_c15
def num_With_c17 : ACode := .loop [1, 3, 4, 8, 19, 20] num_With_c16
def num_With_c18 : ACode := .block 0 num_With_c17
def num_With_c19 : ACode := .seq [1, 3, 4, 8, 19, 20] num_With_c6 num_With_c18
def num_With_o8 : List AOper := [{ dst := some 34, op := .loadN 256 (.t 4) }, { dst := none, op := .storeN 256 (.t 8) (.t 34) }]
def num_With_c20 : ACode := .ops num_With_o8
def num_With_c21 : ACode := .seq [8] num_With_c20 .ret
def num_With_c22 : ACode := .seq [4, 8] num_With_c19 num_With_c21
def num_With_c23 : ACode := .seq [1, 2, 3, 4, 8] num_With_c5 num_With_c22
def num_With_c24 : ACode := .seq [1, 2, 3, 4, 8] num_With_c0 num_With_c23
def A_num_With : AFn := ⟨num_With_c24, [.cellN 8 256]⟩
noncomputable def E_num_With : Sums := disp 174 S_num_there disp0
noncomputable def num_With_c0_d (n : Nat) : SmV := smOps E_num_With num_With_o0
noncomputable def num_With_c1_d (n : Nat) : SmV := smOps E_num_With num_With_o1
noncomputable def num_With_c2_d (n : Nat) : SmV := smOps E_num_With num_With_o2
noncomputable def num_With_c3_d (n : Nat) : SmV := smSeq [8] (num_With_c2_d n) smRet
noncomputable def num_With_c4_d (n : Nat) : SmV := smCond (.t 17) (num_With_c3_d n) smSkip
noncomputable def num_With_c5_d (n : Nat) : SmV := smSeq [1, 2, 3, 4, 8, 17] (num_With_c1_d n) (num_With_c4_d n)
noncomputable def num_With_c6_d (n : Nat) : SmV := smOps E_num_With num_With_o3
noncomputable def num_With_c7_d (n : Nat) : SmV := smOps E_num_With num_With_o4
noncomputable def num_With_c8_d (n : Nat) : SmV := smCond (.t 21) smSkip (smExit 0)
noncomputable def num_With_c9_d (n : Nat) : SmV := smOps E_num_With num_With_o5
noncomputable def num_With_c10_d (n : Nat) : SmV := smOps E_num_With num_With_o6
noncomputable def num_With_c11_d (n : Nat) : SmV := smSeq [1, 3, 4, 8, 9, 19, 20] (num_With_c9_d n) (num_With_c10_d n)
noncomputable def num_With_c12_d (n : Nat) : SmV := smBlock 1 (num_With_c11_d n)
noncomputable def num_With_c13_d (n : Nat) : SmV := smOps E_num_With num_With_o7
noncomputable def num_With_c14_d (n : Nat) : SmV := smSeq [1, 3, 4, 8, 19, 20] (num_With_c12_d n) (num_With_c13_d n)
noncomputable def num_With_c15_d (n : Nat) : SmV := smSeq [1, 3, 4, 8, 19, 20] (num_With_c8_d n) (num_With_c14_d n)
noncomputable def num_With_c16_d (n : Nat) : SmV := smSeq [1, 3, 4, 8, 19, 20, 21] (num_With_c7_d n) (num_With_c15_d n)
noncomputable def num_With_c17_d (n : Nat) : SmV := smLoop n [1, 3, 4, 8, 19, 20] (num_With_c16_d n)
noncomputable def num_With_c18_d (n : Nat) : SmV := smBlock 0 (num_With_c17_d n)
noncomputable def num_With_c19_d (n : Nat) : SmV := smSeq [1, 3, 4, 8, 19, 20] (num_With_c6_d n) (num_With_c18_d n)
noncomputable def num_With_c20_d (n : Nat) : SmV := smOps E_num_With num_With_o8
noncomputable def num_With_c21_d (n : Nat) : SmV := smSeq [8] (num_With_c20_d n) smRet
noncomputable def num_With_c22_d (n : Nat) : SmV := smSeq [4, 8] (num_With_c19_d n) (num_With_c21_d n)
noncomputable def num_With_c23_d (n : Nat) : SmV := smSeq [1, 2, 3, 4, 8] (num_With_c5_d n) (num_With_c22_d n)
noncomputable def num_With_c24_d (n : Nat) : SmV := smSeq [1, 2, 3, 4, 8] (num_With_c0_d n) (num_With_c23_d n)
noncomputable def num_With_k0 (n : Nat) : AExit → Env → Heap → OptV := fun x e h => match x with | .normal => hold ((num_With_c21_d n) A_num_With.fin (e.keep [4, 8]) h) | .exit id => A_num_With.fin (.exit id) e h | .ret => A_num_With.fin .ret e h
noncomputable def num_With_k1 (n : Nat) : AExit → Env → Heap → OptV := fun x e h => match x with | .exit i => bif Nat.beq i 0 then (num_With_k0 n) .normal e h else (num_With_k0 n) (.exit i) e h | .normal => (num_With_k0 n) .normal e h | .ret => (num_With_k0 n) .ret e h
noncomputable def num_With_l0 (n m : Nat) (x1 x3 x4 x8 x19 x20 : Val) (h : Heap) : OptV := around (num_With_c16_d n) [1, 3, 4, 8, 19, 20] (num_With_k1 n) m [(1, x1), (3, x3), (4, x4), (8, x8), (19, x19), (20, x20)] h
noncomputable def R_num_With (n : Nat) (args : List Val) (h : Heap) : OptV := (num_With_c24_d n) A_num_With.fin (params 0 args) h
theorem R_num_With_eq (n : Nat) (a0 a1 a2 a3 : Val) (h : Heap) : R_num_With n [a0, a1, a2, a3] h = bnd (cells? a0) fun c1 => bnd (abin .gtr a2 (.c (.i .i64 4))) fun v2 => bnd (gd v2 false (some (a1, ((h ++ [some (Row.mk (c1) true)]) ++ [some (Row.mk (List.replicate 256 (.i .u8 0)) true)]))) (some (.no, ((h ++ [some (Row.mk (c1) true)]) ++ [some (Row.mk (List.replicate 256 (.i .u8 0)) true)])))) fun p3 => bnd (gd v2 false (some (a2, p3.2)) (some (.no, p3.2))) fun p4 => bnd (gd v2 false (bnd (S_num_there [p3.1, p4.1, .c (.i .i64 256)] p4.2) fun p5 => some (p5.1, p5.2)) (some (.no, p4.2))) fun p6 => bnd (gd v2 false (bnd (aun .not p6.1) fun v7 => some (v7, p6.2)) (some (.no, p6.2))) fun p8 => bnd (apick v2 (.c (.b true)) p8.1) fun v9 => cnd v9 (bnd (aloadN p8.2 256 ((.c (.p h.length 0)))) fun v10 => bnd (astoreN p8.2 256 ((.c (.p ((h ++ [some (Row.mk (c1) true)])).length 0))) v10) fun h11 => mp (aloadN h11 256 ((.c (.p ((h ++ [some (Row.mk (c1) true)])).length 0)))) fun v => (v, h11)) (num_With_l0 n n a1 a3 ((.c (.p h.length 0))) ((.c (.p ((h ++ [some (Row.mk (c1) true)])).length 0))) a2 (.c (.i .i64 0)) p8.2) := by kernel_rfl
theorem num_With_l0_eq (n m : Nat) (x1 x3 x4 x8 x19 x20 : Val) (h : Heap) : num_With_l0 n (m + 1) x1 x3 x4 x8 x19 x20 h = bnd (abin .lss x20 x19) fun v12 => cnd v12 (bnd (abin .add x1 x20) fun v13 => bnd (abin .mul (.c (.i .i64 8)) x20) fun v14 => bnd (aconv .u64 v14) fun v15 => bnd (abin .shr x3 v15) fun v16 => bnd (aconv .u8 v16) fun v17 => bnd (aiAddrA 256 1 x4 v13) fun v18 => bnd (astore1 h v18 v17) fun h19 => bnd (abin .add x20 (.c (.i .i64 1))) fun v20 => num_With_l0 n m x1 x3 x4 x8 x19 v20 h19) (bnd (aloadN h 256 x4) fun v21 => bnd (astoreN h 256 x8 v21) fun h22 => mp (aloadN h22 256 x8) fun v => (v, h22)) := by kernel_rfl
theorem K_num_With : FnK Try.prog 58 A_num_With E_num_With R_num_With := .mk' (sound1 S_num_there_ok sound0) Try.func58 (by kernel_rfl) (by intro n args h; kernel_rfl)
noncomputable def S_num_With : Fun := tidy (Lim A_num_With E_num_With)
theorem S_num_With_ok : SOk Try.prog 58 S_num_With := K_num_With.sok
theorem S_num_With_flat {n : Nat} {args : List Val} {h h2 : Heap} {v : Val} (he : R_num_With n args (ro h) = some (v, h2)) (hf : v.flat = true) : S_num_With args h = some (v, h) := K_num_With.flat he hf
def num_At_o0 : List AOper := [{ dst := some 3, op := .box (.t 0) }, { dst := some 6, op := .mv (.v (.c (.i .i64 0))) }]
def num_At_c0 : ACode := .ops num_At_o0
def num_At_o1 : List AOper := [{ dst := some 9, op := .mv (.t 2) }, { dst := some 10, op := .bin .gtr (.t 9) (.v (.c (.i .i64 4))) }, { dst := some 11, op := .mv (.t 10) }, { dst := some 12, op := .mv (.t 1), guard := some (11, false) }, { dst := some 13, op := .mv (.t 2), guard := some (11, false) }, { dst := some 14, op := .call 174 [(.t 12), (.t 13), (.v (.c (.i .i64 256)))], guard := some (11, false) }, { dst := some 15, op := .un .not (.t 14), guard := some (11, false) }, { dst := some 16, op := .pick (.t 11) (.v (.c (.b true))) (.t 15) }]
def num_At_c1 : ACode := .ops num_At_o1
def num_At_o2 : List AOper := [{ dst := some 6, op := .mv (.v (.c (.i .i64 0))) }]
def num_At_c2 : ACode := .ops num_At_o2
def num_At_c3 : ACode := .seq [6] num_At_c2 .ret
def num_At_c4 : ACode := .cond (.t 16) num_At_c3 .skip
def num_At_c5 : ACode := .seq [1, 2, 3, 16] num_At_c1 num_At_c4
def num_At_o3 : List AOper := [{ dst := some 7, op := .mv (.v (.c (.i .i64 0))) }]
def num_At_c6 : ACode := .ops num_At_o3
def num_At_o4 : List AOper := [{ dst := some 17, op := .mv (.t 2) }, { dst := some 18, op := .mv (.v (.c (.i .i64 0))) }]
def num_At_c7 : ACode := .ops num_At_o4
def num_At_o5 : List AOper := [{ dst := some 19, op := .bin .lss (.t 18) (.t 17) }]
def num_At_c8 : ACode := .ops num_At_o5
def num_At_c9 : ACode := .cond (.t 19) .skip (.exit 0)
def num_At_o6 : List AOper := [{ dst := some 20, op := .mv (.t 18) }, { dst := some 8, op := .mv (.t 20) }]
def num_At_c10 : ACode := .ops num_At_o6
def num_At_o7 : List AOper := [{ dst := some 21, op := .mv (.t 7) }, { dst := some 22, op := .mv (.t 1) }, { dst := some 23, op := .mv (.t 8) }, { dst := some 24, op := .bin .add (.t 22) (.t 23) }, { dst := some 25, op := .iAddrA 256 1 (.t 3) (.t 24) }, { dst := some 26, op := .load1 (.t 25) }, { dst := some 27, op := .conv .i64 (.t 26) }, { dst := some 28, op := .mv (.t 8) }, { dst := some 29, op := .bin .mul (.v (.c (.i .i64 8))) (.t 28) }, { dst := some 30, op := .conv .u64 (.t 29) }, { dst := some 31, op := .bin .shl (.t 27) (.t 30) }, { dst := some 32, op := .bin .or (.t 21) (.t 31) }, { dst := some 7, op := .mv (.t 32) }]
def num_At_c11 : ACode := .ops num_At_o7
def num_At_c12 : ACode := .seq [1, 3, 7, 8, 17, 18] num_At_c10 num_At_c11
def num_At_c13 : ACode := .block 1 num_At_c12
def num_At_o8 : List AOper := [{ dst := some 33, op := .bin .add (.t 18) (.v (.c (.i .i64 1))) }, { dst := some 18, op := .mv (.t 33) }]
def num_At_c14 : ACode := .ops num_At_o8
def num_At_c15 : ACode := .seq [1, 3, 7, 17, 18] num_At_c13 num_At_c14
def num_At_c16 : ACode := .seq [1, 3, 7, 17, 18] num_At_c9 num_At_c15
def num_At_c17 : ACode := .seq [1, 3, 7, 17, 18, 19] num_At_c8 num_At_c16
def num_At_c18 : ACode := .loop [1, 3, 7, 17, 18] num_At_c17
def num_At_c19 : ACode := .block 0 num_At_c18
def num_At_c20 : ACode := .seq [1, 3, 7, 17, 18] num_At_c7 num_At_c19
def num_At_o9 : List AOper := [{ dst := some 34, op := .mv (.t 7) }, { dst := some 6, op := .mv (.t 34) }]
def num_At_c21 : ACode := .ops num_At_o9
def num_At_c22 : ACode := .seq [6] num_At_c21 .ret
def num_At_c23 : ACode := .seq [7] num_At_c20 num_At_c22
def num_At_c24 : ACode := .seq [1, 2, 3, 7] num_At_c6 num_At_c23
def num_At_c25 : ACode := .seq [1, 2, 3] num_At_c5 num_At_c24
def num_At_c26 : ACode := .seq [1, 2, 3] num_At_c0 num_At_c25
def A_num_At : AFn := ⟨num_At_c26, [.tmp 6]⟩
noncomputable def E_num_At : Sums := disp 174 S_num_there disp0
noncomputable def num_At_c0_d (n : Nat) : SmV := smOps E_num_At num_At_o0
noncomputable def num_At_c1_d (n : Nat) : SmV := smOps E_num_At num_At_o1
noncomputable def num_At_c2_d (n : Nat) : SmV := smOps E_num_At num_At_o2
noncomputable def num_At_c3_d (n : Nat) : SmV := smSeq [6] (num_At_c2_d n) smRet
noncomputable def num_At_c4_d (n : Nat) : SmV := smCond (.t 16) (num_At_c3_d n) smSkip
noncomputable def num_At_c5_d (n : Nat) : SmV := smSeq [1, 2, 3, 16] (num_At_c1_d n) (num_At_c4_d n)
noncomputable def num_At_c6_d (n : Nat) : SmV := smOps E_num_At num_At_o3
noncomputable def num_At_c7_d (n : Nat) : SmV := smOps E_num_At num_At_o4
noncomputable def num_At_c8_d (n : Nat) : SmV := smOps E_num_At num_At_o5
noncomputable def num_At_c9_d (n : Nat) : SmV := smCond (.t 19) smSkip (smExit 0)
noncomputable def num_At_c10_d (n : Nat) : SmV := smOps E_num_At num_At_o6
noncomputable def num_At_c11_d (n : Nat) : SmV := smOps E_num_At num_At_o7
noncomputable def num_At_c12_d (n : Nat) : SmV := smSeq [1, 3, 7, 8, 17, 18] (num_At_c10_d n) (num_At_c11_d n)
noncomputable def num_At_c13_d (n : Nat) : SmV := smBlock 1 (num_At_c12_d n)
noncomputable def num_At_c14_d (n : Nat) : SmV := smOps E_num_At num_At_o8
noncomputable def num_At_c15_d (n : Nat) : SmV := smSeq [1, 3, 7, 17, 18] (num_At_c13_d n) (num_At_c14_d n)
noncomputable def num_At_c16_d (n : Nat) : SmV := smSeq [1, 3, 7, 17, 18] (num_At_c9_d n) (num_At_c15_d n)
noncomputable def num_At_c17_d (n : Nat) : SmV := smSeq [1, 3, 7, 17, 18, 19] (num_At_c8_d n) (num_At_c16_d n)
noncomputable def num_At_c18_d (n : Nat) : SmV := smLoop n [1, 3, 7, 17, 18] (num_At_c17_d n)
noncomputable def num_At_c19_d (n : Nat) : SmV := smBlock 0 (num_At_c18_d n)
noncomputable def num_At_c20_d (n : Nat) : SmV := smSeq [1, 3, 7, 17, 18] (num_At_c7_d n) (num_At_c19_d n)
noncomputable def num_At_c21_d (n : Nat) : SmV := smOps E_num_At num_At_o9
noncomputable def num_At_c22_d (n : Nat) : SmV := smSeq [6] (num_At_c21_d n) smRet
noncomputable def num_At_c23_d (n : Nat) : SmV := smSeq [7] (num_At_c20_d n) (num_At_c22_d n)
noncomputable def num_At_c24_d (n : Nat) : SmV := smSeq [1, 2, 3, 7] (num_At_c6_d n) (num_At_c23_d n)
noncomputable def num_At_c25_d (n : Nat) : SmV := smSeq [1, 2, 3] (num_At_c5_d n) (num_At_c24_d n)
noncomputable def num_At_c26_d (n : Nat) : SmV := smSeq [1, 2, 3] (num_At_c0_d n) (num_At_c25_d n)
noncomputable def num_At_k0 (n : Nat) : AExit → Env → Heap → OptV := fun x e h => match x with | .normal => hold ((num_At_c22_d n) A_num_At.fin (e.keep [7]) h) | .exit id => A_num_At.fin (.exit id) e h | .ret => A_num_At.fin .ret e h
noncomputable def num_At_k1 (n : Nat) : AExit → Env → Heap → OptV := fun x e h => match x with | .exit i => bif Nat.beq i 0 then (num_At_k0 n) .normal e h else (num_At_k0 n) (.exit i) e h | .normal => (num_At_k0 n) .normal e h | .ret => (num_At_k0 n) .ret e h
noncomputable def num_At_l0 (n m : Nat) (x1 x3 x7 x17 x18 : Val) (h : Heap) : OptV := around (num_At_c17_d n) [1, 3, 7, 17, 18] (num_At_k1 n) m [(1, x1), (3, x3), (7, x7), (17, x17), (18, x18)] h
noncomputable def R_num_At (n : Nat) (args : List Val) (h : Heap) : OptV := (num_At_c26_d n) A_num_At.fin (params 0 args) h
theorem R_num_At_eq (n : Nat) (a0 a1 a2 : Val) (h : Heap) : R_num_At n [a0, a1, a2] h = bnd (cells? a0) fun c1 => bnd (abin .gtr a2 (.c (.i .i64 4))) fun v2 => bnd (gd v2 false (some (a1, (h ++ [some (Row.mk (c1) true)]))) (some (.no, (h ++ [some (Row.mk (c1) true)])))) fun p3 => bnd (gd v2 false (some (a2, p3.2)) (some (.no, p3.2))) fun p4 => bnd (gd v2 false (bnd (S_num_there [p3.1, p4.1, .c (.i .i64 256)] p4.2) fun p5 => some (p5.1, p5.2)) (some (.no, p4.2))) fun p6 => bnd (gd v2 false (bnd (aun .not p6.1) fun v7 => some (v7, p6.2)) (some (.no, p6.2))) fun p8 => bnd (apick v2 (.c (.b true)) p8.1) fun v9 => cnd v9 (some ((.c (.i .i64 0)), p8.2)) (num_At_l0 n n a1 ((.c (.p h.length 0))) (.c (.i .i64 0)) a2 (.c (.i .i64 0)) p8.2) := by kernel_rfl
theorem num_At_l0_eq (n m : Nat) (x1 x3 x7 x17 x18 : Val) (h : Heap) : num_At_l0 n (m + 1) x1 x3 x7 x17 x18 h = bnd (abin .lss x18 x17) fun v10 => cnd v10 (bnd (abin .add x1 x18) fun v11 => bnd (aiAddrA 256 1 x3 v11) fun v12 => bnd (aload1 h v12) fun v13 => bnd (aconv .i64 v13) fun v14 => bnd (abin .mul (.c (.i .i64 8)) x18) fun v15 => bnd (aconv .u64 v15) fun v16 => bnd (abin .shl v14 v16) fun v17 => bnd (abin .or x7 v17) fun v18 => bnd (abin .add x18 (.c (.i .i64 1))) fun v19 => num_At_l0 n m x1 x3 v18 x17 v19 h) (some (x7, h)) := by kernel_rfl
theorem K_num_At : FnK Try.prog 59 A_num_At E_num_At R_num_At := .mk' (sound1 S_num_there_ok sound0) Try.func59 (by kernel_rfl) (by intro n args h; kernel_rfl)
noncomputable def S_num_At : Fun := tidy (Lim A_num_At E_num_At)
theorem S_num_At_ok : SOk Try.prog 59 S_num_At := K_num_At.sok
theorem S_num_At_flat {n : Nat} {args : List Val} {h h2 : Heap} {v : Val} (he : R_num_At n args (ro h) = some (v, h2)) (hf : v.flat = true) : S_num_At args h = some (v, h) := K_num_At.flat he hf
def num_Put_o0 : List AOper := [{ dst := some 8, op := .nilrow 1 }, { dst := some 9, op := .mv (.v (.c (.b false))) }]
def num_Put_c0 : ACode := .ops num_Put_o0
def num_Put_o1 : List AOper := [{ dst := some 12, op := .mv (.t 2) }, { dst := some 13, op := .bin .gtr (.t 12) (.v (.c (.i .i64 8))) }, { dst := some 14, op := .mv (.t 13) }, { dst := some 15, op := .mv (.t 1), guard := some (14, false) }, { dst := some 16, op := .mv (.t 2), guard := some (14, false) }, { dst := some 17, op := .mv (.t 0), guard := some (14, false) }, { dst := some 18, op := .len (.t 17), guard := some (14, false) }, { dst := some 19, op := .call 174 [(.t 15), (.t 16), (.t 18)], guard := some (14, false) }, { dst := some 20, op := .un .not (.t 19), guard := some (14, false) }, { dst := some 21, op := .pick (.t 14) (.v (.c (.b true))) (.t 20) }]
def num_Put_c1 : ACode := .ops num_Put_o1
def num_Put_o2 : List AOper := [{ dst := some 8, op := .nilrow 1 }, { dst := some 9, op := .mv (.v (.c (.b false))) }]
def num_Put_c2 : ACode := .ops num_Put_o2
def num_Put_c3 : ACode := .seq [8, 9] num_Put_c2 .ret
def num_Put_c4 : ACode := .cond (.t 21) num_Put_c3 .skip
def num_Put_c5 : ACode := .seq [0, 1, 2, 3, 21] num_Put_c1 num_Put_c4
def num_Put_o3 : List AOper := [{ dst := some 22, op := .buildSl 1 0 ([]) [] }, { dst := some 23, op := .mv (.t 0) }, { dst := some 24, op := .app 1 (.t 22) (.t 23) }, { dst := some 10, op := .mv (.t 24) }]
def num_Put_c6 : ACode := .ops num_Put_o3
def num_Put_o4 : List AOper := [{ dst := some 25, op := .mv (.t 2) }, { dst := some 26, op := .mv (.v (.c (.i .i64 0))) }]
def num_Put_c7 : ACode := .ops num_Put_o4
def num_Put_o5 : List AOper := [{ dst := some 27, op := .bin .lss (.t 26) (.t 25) }]
def num_Put_c8 : ACode := .ops num_Put_o5
def num_Put_c9 : ACode := .cond (.t 27) .skip (.exit 0)
def num_Put_o6 : List AOper := [{ dst := some 28, op := .mv (.t 26) }, { dst := some 11, op := .mv (.t 28) }]
def num_Put_c10 : ACode := .ops num_Put_o6
def num_Put_o7 : List AOper := [{ dst := some 29, op := .mv (.t 10) }, { dst := some 30, op := .mv (.t 1) }, { dst := some 31, op := .mv (.t 11) }, { dst := some 32, op := .bin .add (.t 30) (.t 31) }, { dst := some 33, op := .mv (.t 3) }, { dst := some 34, op := .mv (.t 11) }, { dst := some 35, op := .bin .mul (.v (.c (.i .i64 8))) (.t 34) }, { dst := some 36, op := .conv .u64 (.t 35) }, { dst := some 37, op := .bin .shr (.t 33) (.t 36) }, { dst := some 38, op := .conv .u8 (.t 37) }, { dst := some 39, op := .iAddrL 1 (.t 29) (.t 32) }, { dst := none, op := .store1 (.t 39) (.t 38) }]
def num_Put_c11 : ACode := .ops num_Put_o7
def num_Put_c12 : ACode := .seq [1, 3, 10, 11, 25, 26] num_Put_c10 num_Put_c11
def num_Put_c13 : ACode := .block 1 num_Put_c12
def num_Put_o8 : List AOper := [{ dst := some 40, op := .bin .add (.t 26) (.v (.c (.i .i64 1))) }, { dst := some 26, op := .mv (.t 40) }]
def num_Put_c14 : ACode := .ops num_Put_o8
def num_Put_c15 : ACode := .seq [1, 3, 10, 25, 26] num_Put_c13 num_Put_c14
def num_Put_c16 : ACode := .seq [1, 3, 10, 25, 26] num_Put_c9 num_Put_c15
def num_Put_c17 : ACode := .seq [1, 3, 10, 25, 26, 27] num_Put_c8 num_Put_c16
def num_Put_c18 : ACode := .loop [1, 3, 10, 25, 26] num_Put_c17
def num_Put_c19 : ACode := .block 0 num_Put_c18
def num_Put_c20 : ACode := .seq [1, 3, 10, 25, 26] num_Put_c7 num_Put_c19
def num_Put_o9 : List AOper := [{ dst := some 41, op := .mv (.t 10) }, { dst := some 8, op := .mv (.t 41) }, { dst := some 9, op := .mv (.v (.c (.b true))) }]
def num_Put_c21 : ACode := .ops num_Put_o9
def num_Put_c22 : ACode := .seq [8, 9] num_Put_c21 .ret
def num_Put_c23 : ACode := .seq [10] num_Put_c20 num_Put_c22
def num_Put_c24 : ACode := .seq [1, 2, 3, 10] num_Put_c6 num_Put_c23
def num_Put_c25 : ACode := .seq [0, 1, 2, 3] num_Put_c5 num_Put_c24
def num_Put_c26 : ACode := .seq [0, 1, 2, 3] num_Put_c0 num_Put_c25
def A_num_Put : AFn := ⟨num_Put_c26, [.tmp 8, .tmp 9]⟩
noncomputable def E_num_Put : Sums := disp 174 S_num_there disp0
noncomputable def num_Put_c0_d (n : Nat) : SmV := smOps E_num_Put num_Put_o0
noncomputable def num_Put_c1_d (n : Nat) : SmV := smOps E_num_Put num_Put_o1
noncomputable def num_Put_c2_d (n : Nat) : SmV := smOps E_num_Put num_Put_o2
noncomputable def num_Put_c3_d (n : Nat) : SmV := smSeq [8, 9] (num_Put_c2_d n) smRet
noncomputable def num_Put_c4_d (n : Nat) : SmV := smCond (.t 21) (num_Put_c3_d n) smSkip
noncomputable def num_Put_c5_d (n : Nat) : SmV := smSeq [0, 1, 2, 3, 21] (num_Put_c1_d n) (num_Put_c4_d n)
noncomputable def num_Put_c6_d (n : Nat) : SmV := smOps E_num_Put num_Put_o3
noncomputable def num_Put_c7_d (n : Nat) : SmV := smOps E_num_Put num_Put_o4
noncomputable def num_Put_c8_d (n : Nat) : SmV := smOps E_num_Put num_Put_o5
noncomputable def num_Put_c9_d (n : Nat) : SmV := smCond (.t 27) smSkip (smExit 0)
noncomputable def num_Put_c10_d (n : Nat) : SmV := smOps E_num_Put num_Put_o6
noncomputable def num_Put_c11_d (n : Nat) : SmV := smOps E_num_Put num_Put_o7
noncomputable def num_Put_c12_d (n : Nat) : SmV := smSeq [1, 3, 10, 11, 25, 26] (num_Put_c10_d n) (num_Put_c11_d n)
noncomputable def num_Put_c13_d (n : Nat) : SmV := smBlock 1 (num_Put_c12_d n)
noncomputable def num_Put_c14_d (n : Nat) : SmV := smOps E_num_Put num_Put_o8
noncomputable def num_Put_c15_d (n : Nat) : SmV := smSeq [1, 3, 10, 25, 26] (num_Put_c13_d n) (num_Put_c14_d n)
noncomputable def num_Put_c16_d (n : Nat) : SmV := smSeq [1, 3, 10, 25, 26] (num_Put_c9_d n) (num_Put_c15_d n)
noncomputable def num_Put_c17_d (n : Nat) : SmV := smSeq [1, 3, 10, 25, 26, 27] (num_Put_c8_d n) (num_Put_c16_d n)
noncomputable def num_Put_c18_d (n : Nat) : SmV := smLoop n [1, 3, 10, 25, 26] (num_Put_c17_d n)
noncomputable def num_Put_c19_d (n : Nat) : SmV := smBlock 0 (num_Put_c18_d n)
noncomputable def num_Put_c20_d (n : Nat) : SmV := smSeq [1, 3, 10, 25, 26] (num_Put_c7_d n) (num_Put_c19_d n)
noncomputable def num_Put_c21_d (n : Nat) : SmV := smOps E_num_Put num_Put_o9
noncomputable def num_Put_c22_d (n : Nat) : SmV := smSeq [8, 9] (num_Put_c21_d n) smRet
noncomputable def num_Put_c23_d (n : Nat) : SmV := smSeq [10] (num_Put_c20_d n) (num_Put_c22_d n)
noncomputable def num_Put_c24_d (n : Nat) : SmV := smSeq [1, 2, 3, 10] (num_Put_c6_d n) (num_Put_c23_d n)
noncomputable def num_Put_c25_d (n : Nat) : SmV := smSeq [0, 1, 2, 3] (num_Put_c5_d n) (num_Put_c24_d n)
noncomputable def num_Put_c26_d (n : Nat) : SmV := smSeq [0, 1, 2, 3] (num_Put_c0_d n) (num_Put_c25_d n)
noncomputable def num_Put_k0 (n : Nat) : AExit → Env → Heap → OptV := fun x e h => match x with | .normal => hold ((num_Put_c22_d n) A_num_Put.fin (e.keep [10]) h) | .exit id => A_num_Put.fin (.exit id) e h | .ret => A_num_Put.fin .ret e h
noncomputable def num_Put_k1 (n : Nat) : AExit → Env → Heap → OptV := fun x e h => match x with | .exit i => bif Nat.beq i 0 then (num_Put_k0 n) .normal e h else (num_Put_k0 n) (.exit i) e h | .normal => (num_Put_k0 n) .normal e h | .ret => (num_Put_k0 n) .ret e h
noncomputable def num_Put_l0 (n m : Nat) (x1 x3 x10 x25 x26 : Val) (h : Heap) : OptV := around (num_Put_c17_d n) [1, 3, 10, 25, 26] (num_Put_k1 n) m [(1, x1), (3, x3), (10, x10), (25, x25), (26, x26)] h
noncomputable def R_num_Put (n : Nat) (args : List Val) (h : Heap) : OptV := (num_Put_c26_d n) A_num_Put.fin (params 0 args) h
theorem R_num_Put_eq (n : Nat) (a0 a1 a2 a3 : Val) (h : Heap) : R_num_Put n [a0, a1, a2, a3] h = bnd (abin .gtr a2 (.c (.i .i64 8))) fun v1 => bnd (gd v1 false (some (a1, (h ++ [some (Row.mk ([]) true)]))) (some (.no, (h ++ [some (Row.mk ([]) true)])))) fun p2 => bnd (gd v1 false (some (a2, p2.2)) (some (.no, p2.2))) fun p3 => bnd (gd v1 false (some (a0, p3.2)) (some (.no, p3.2))) fun p4 => bnd (gd v1 false (bnd (alen p4.1) fun v5 => some (v5, p4.2)) (some (.no, p4.2))) fun p6 => bnd (gd v1 false (bnd (S_num_there [p2.1, p3.1, p6.1] p6.2) fun p7 => some (p7.1, p7.2)) (some (.no, p6.2))) fun p8 => bnd (gd v1 false (bnd (aun .not p8.1) fun v9 => some (v9, p8.2)) (some (.no, p8.2))) fun p10 => bnd (apick v1 (.c (.b true)) p10.1) fun v11 => cnd v11 (tupN [some ((.c (.sl p10.2.length 0 0 1))), some (.c (.b false))] ((p10.2 ++ [some (Row.mk ([]) true)]))) (bnd (afill ([]) []) fun c12 => bnd (aapp ((p10.2 ++ [some (Row.mk (c12) true)])) 1 ((.c (.sl p10.2.length 0 0 1))) a0) fun p13 => num_Put_l0 n n a1 a3 p13.1 a2 (.c (.i .i64 0)) p13.2) := by kernel_rfl
theorem num_Put_l0_eq (n m : Nat) (x1 x3 x10 x25 x26 : Val) (h : Heap) : num_Put_l0 n (m + 1) x1 x3 x10 x25 x26 h = bnd (abin .lss x26 x25) fun v14 => cnd v14 (bnd (abin .add x1 x26) fun v15 => bnd (abin .mul (.c (.i .i64 8)) x26) fun v16 => bnd (aconv .u64 v16) fun v17 => bnd (abin .shr x3 v17) fun v18 => bnd (aconv .u8 v18) fun v19 => bnd (aiAddrL 1 x10 v15) fun v20 => bnd (astore1 h v20 v19) fun h21 => bnd (abin .add x26 (.c (.i .i64 1))) fun v22 => num_Put_l0 n m x1 x3 x10 x25 v22 h21) (tupN [some x10, some (.c (.b true))] h) := by kernel_rfl
theorem K_num_Put : FnK Try.prog 63 A_num_Put E_num_Put R_num_Put := .mk' (sound1 S_num_there_ok sound0) Try.func63 (by kernel_rfl) (by intro n args h; kernel_rfl)
noncomputable def S_num_Put : Fun := tidy (Lim A_num_Put E_num_Put)
theorem S_num_Put_ok : SOk Try.prog 63 S_num_Put := K_num_Put.sok
theorem S_num_Put_flat {n : Nat} {args : List Val} {h h2 : Heap} {v : Val} (he : R_num_Put n args (ro h) = some (v, h2)) (hf : v.flat = true) : S_num_Put args h = some (v, h) := K_num_Put.flat he hf
theorem S_num_Put_low {n : Nat} {args : List Val} {h h2 : Heap} {v : Val} (he : R_num_Put n args (ro h) = some (v, h2)) (hf : v.low h.length = true) : S_num_Put args h = some (v, h) := K_num_Put.low he hf
theorem S_num_Put_out2 {n : Nat} {args : List Val} {h h2 : Heap} {i : Nat} {c : Cell} {sz k : Nat} {cs : List Cell} (he : R_num_Put n args (ro h) = some (.t [.c (.sl i 0 k sz), .c c], h2)) (ho : Out h.length h2 (.c (.sl i 0 k sz)) sz k cs) (hf : flats cs = true) (hc : c.flat = true) : S_num_Put args h = some (.t [.c (.sl h.length 0 k sz), .c c], h ++ [some ⟨cs, true⟩]) := K_num_Put.out2 he ho hf hc
theorem S_num_Put_tidy {n : Nat} {args : List Val} {h h2 : Heap} {v : Val} {v2 : Val} {ids : List Nat} (he : R_num_Put n args (ro h) = some (v, h2)) (hc : canonV h2 h.length v = some (v2, ids)) : S_num_Put args h = some (v2, h ++ ids.map (rd h2)) := K_num_Put.tidy he hc
def num_Lay_o0 : List AOper := [{ dst := some 3, op := .box (.t 0) }, { dst := some 6, op := .alloc (List.replicate 256 (.i .u8 0)) }]
def num_Lay_c0 : ACode := .ops num_Lay_o0
def num_Lay_o1 : List AOper := [{ dst := some 9, op := .mv (.t 1) }, { dst := some 10, op := .bin .lss (.t 9) (.v (.c (.i .i64 0))) }, { dst := some 11, op := .mv (.t 10) }, { dst := some 12, op := .mv (.t 1), guard := some (11, false) }, { dst := some 13, op := .bin .geq (.t 12) (.v (.c (.i .i64 256))), guard := some (11, false) }, { dst := some 14, op := .pick (.t 11) (.v (.c (.b true))) (.t 13) }]
def num_Lay_c1 : ACode := .ops num_Lay_o1
def num_Lay_o2 : List AOper := [{ dst := some 15, op := .loadN 256 (.t 3) }, { dst := none, op := .storeN 256 (.t 6) (.t 15) }]
def num_Lay_c2 : ACode := .ops num_Lay_o2
def num_Lay_c3 : ACode := .seq [6] num_Lay_c2 .ret
def num_Lay_c4 : ACode := .cond (.t 14) num_Lay_c3 .skip
def num_Lay_c5 : ACode := .seq [1, 2, 3, 6, 14] num_Lay_c1 num_Lay_c4
def num_Lay_o3 : List AOper := [{ dst := some 16, op := .mv (.t 2) }, { dst := some 17, op := .len (.t 16) }, { dst := some 18, op := .mv (.v (.c (.i .i64 0))) }]
def num_Lay_c6 : ACode := .ops num_Lay_o3
def num_Lay_o4 : List AOper := [{ dst := some 19, op := .bin .lss (.t 18) (.t 17) }]
def num_Lay_c7 : ACode := .ops num_Lay_o4
def num_Lay_c8 : ACode := .cond (.t 19) .skip (.exit 0)
def num_Lay_o5 : List AOper := [{ dst := some 20, op := .mv (.t 18) }, { dst := some 21, op := .iAddrL 1 (.t 16) (.t 18) }, { dst := some 22, op := .load1 (.t 21) }, { dst := some 7, op := .mv (.t 20) }, { dst := some 8, op := .mv (.t 22) }]
def num_Lay_c9 : ACode := .ops num_Lay_o5
def num_Lay_o6 : List AOper := [{ dst := some 23, op := .mv (.t 7) }, { dst := some 24, op := .mv (.t 1) }, { dst := some 25, op := .bin .sub (.v (.c (.i .i64 256))) (.t 24) }, { dst := some 26, op := .bin .geq (.t 23) (.t 25) }]
def num_Lay_c10 : ACode := .ops num_Lay_o6
def num_Lay_c11 : ACode := .cond (.t 26) (.exit 0) .skip
def num_Lay_c12 : ACode := .seq [1, 3, 6, 7, 8, 16, 17, 18, 26] num_Lay_c10 num_Lay_c11
def num_Lay_o7 : List AOper := [{ dst := some 27, op := .mv (.t 1) }, { dst := some 28, op := .mv (.t 7) }, { dst := some 29, op := .bin .add (.t 27) (.t 28) }, { dst := some 30, op := .mv (.t 8) }, { dst := some 31, op := .iAddrA 256 1 (.t 3) (.t 29) }, { dst := none, op := .store1 (.t 31) (.t 30) }]
def num_Lay_c13 : ACode := .ops num_Lay_o7
def num_Lay_c14 : ACode := .seq [1, 3, 6, 7, 8, 16, 17, 18] num_Lay_c12 num_Lay_c13
def num_Lay_c15 : ACode := .seq [1, 3, 6, 7, 8, 16, 17, 18] num_Lay_c9 num_Lay_c14
def num_Lay_c16 : ACode := .block 1 num_Lay_c15
def num_Lay_o8 : List AOper := [{ dst := some 32, op := .bin .add (.t 18) (.v (.c (.i .i64 1))) }, { dst := some 18, op := .mv (.t 32) }]
def num_Lay_c17 : ACode := .ops num_Lay_o8
def num_Lay_c18 : ACode := .seq [1, 3, 6, 16, 17, 18] num_Lay_c16 num_Lay_c17
def num_Lay_c19 : ACode := .seq [1, 3, 6, 16, 17, 18] num_Lay_c8 num_Lay_c18
def num_Lay_c20 : ACode := .seq [1, 3, 6, 16, 17, 18, 19] num_Lay_c7 num_Lay_c19
def num_Lay_c21 : ACode := .loop [1, 3, 6, 16, 17, 18] num_Lay_c20
def num_Lay_c22 : ACode := .block 0 num_Lay_c21
def num_Lay_c23 : ACode := .seq [1, 3, 6, 16, 17, 18] num_Lay_c6 num_Lay_c22
def num_Lay_o9 : List AOper := [{ dst := some 33, op := .loadN 256 (.t 3) }, { dst := none, op := .storeN 256 (.t 6) (.t 33) }]
def num_Lay_c24 : ACode := .ops num_Lay_o9
def num_Lay_c25 : ACode := .seq [6] num_Lay_c24 .ret
def num_Lay_c26 : ACode := .seq [3, 6] num_Lay_c23 num_Lay_c25
def num_Lay_c27 : ACode := .seq [1, 2, 3, 6] num_Lay_c5 num_Lay_c26
def num_Lay_c28 : ACode := .seq [1, 2, 3, 6] num_Lay_c0 num_Lay_c27
def A_num_Lay : AFn := ⟨num_Lay_c28, [.cellN 6 256]⟩
noncomputable def E_num_Lay : Sums := disp0
noncomputable def num_Lay_c0_d (n : Nat) : SmV := smOps E_num_Lay num_Lay_o0
noncomputable def num_Lay_c1_d (n : Nat) : SmV := smOps E_num_Lay num_Lay_o1
noncomputable def num_Lay_c2_d (n : Nat) : SmV := smOps E_num_Lay num_Lay_o2
noncomputable def num_Lay_c3_d (n : Nat) : SmV := smSeq [6] (num_Lay_c2_d n) smRet
noncomputable def num_Lay_c4_d (n : Nat) : SmV := smCond (.t 14) (num_Lay_c3_d n) smSkip
noncomputable def num_Lay_c5_d (n : Nat) : SmV := smSeq [1, 2, 3, 6, 14] (num_Lay_c1_d n) (num_Lay_c4_d n)
noncomputable def num_Lay_c6_d (n : Nat) : SmV := smOps E_num_Lay num_Lay_o3
noncomputable def num_Lay_c7_d (n : Nat) : SmV := smOps E_num_Lay num_Lay_o4
noncomputable def num_Lay_c8_d (n : Nat) : SmV := smCond (.t 19) smSkip (smExit 0)
noncomputable def num_Lay_c9_d (n : Nat) : SmV := smOps E_num_Lay num_Lay_o5
noncomputable def num_Lay_c10_d (n : Nat) : SmV := smOps E_num_Lay num_Lay_o6
noncomputable def num_Lay_c11_d (n : Nat) : SmV := smCond (.t 26) (smExit 0) smSkip
noncomputable def num_Lay_c12_d (n : Nat) : SmV := smSeq [1, 3, 6, 7, 8, 16, 17, 18, 26] (num_Lay_c10_d n) (num_Lay_c11_d n)
noncomputable def num_Lay_c13_d (n : Nat) : SmV := smOps E_num_Lay num_Lay_o7
noncomputable def num_Lay_c14_d (n : Nat) : SmV := smSeq [1, 3, 6, 7, 8, 16, 17, 18] (num_Lay_c12_d n) (num_Lay_c13_d n)
noncomputable def num_Lay_c15_d (n : Nat) : SmV := smSeq [1, 3, 6, 7, 8, 16, 17, 18] (num_Lay_c9_d n) (num_Lay_c14_d n)
noncomputable def num_Lay_c16_d (n : Nat) : SmV := smBlock 1 (num_Lay_c15_d n)
noncomputable def num_Lay_c17_d (n : Nat) : SmV := smOps E_num_Lay num_Lay_o8
noncomputable def num_Lay_c18_d (n : Nat) : SmV := smSeq [1, 3, 6, 16, 17, 18] (num_Lay_c16_d n) (num_Lay_c17_d n)
noncomputable def num_Lay_c19_d (n : Nat) : SmV := smSeq [1, 3, 6, 16, 17, 18] (num_Lay_c8_d n) (num_Lay_c18_d n)
noncomputable def num_Lay_c20_d (n : Nat) : SmV := smSeq [1, 3, 6, 16, 17, 18, 19] (num_Lay_c7_d n) (num_Lay_c19_d n)
noncomputable def num_Lay_c21_d (n : Nat) : SmV := smLoop n [1, 3, 6, 16, 17, 18] (num_Lay_c20_d n)
noncomputable def num_Lay_c22_d (n : Nat) : SmV := smBlock 0 (num_Lay_c21_d n)
noncomputable def num_Lay_c23_d (n : Nat) : SmV := smSeq [1, 3, 6, 16, 17, 18] (num_Lay_c6_d n) (num_Lay_c22_d n)
noncomputable def num_Lay_c24_d (n : Nat) : SmV := smOps E_num_Lay num_Lay_o9
noncomputable def num_Lay_c25_d (n : Nat) : SmV := smSeq [6] (num_Lay_c24_d n) smRet
noncomputable def num_Lay_c26_d (n : Nat) : SmV := smSeq [3, 6] (num_Lay_c23_d n) (num_Lay_c25_d n)
noncomputable def num_Lay_c27_d (n : Nat) : SmV := smSeq [1, 2, 3, 6] (num_Lay_c5_d n) (num_Lay_c26_d n)
noncomputable def num_Lay_c28_d (n : Nat) : SmV := smSeq [1, 2, 3, 6] (num_Lay_c0_d n) (num_Lay_c27_d n)
noncomputable def num_Lay_k0 (n : Nat) : AExit → Env → Heap → OptV := fun x e h => match x with | .normal => hold ((num_Lay_c25_d n) A_num_Lay.fin (e.keep [3, 6]) h) | .exit id => A_num_Lay.fin (.exit id) e h | .ret => A_num_Lay.fin .ret e h
noncomputable def num_Lay_k1 (n : Nat) : AExit → Env → Heap → OptV := fun x e h => match x with | .exit i => bif Nat.beq i 0 then (num_Lay_k0 n) .normal e h else (num_Lay_k0 n) (.exit i) e h | .normal => (num_Lay_k0 n) .normal e h | .ret => (num_Lay_k0 n) .ret e h
noncomputable def num_Lay_l0 (n m : Nat) (x1 x3 x6 x16 x17 x18 : Val) (h : Heap) : OptV := around (num_Lay_c20_d n) [1, 3, 6, 16, 17, 18] (num_Lay_k1 n) m [(1, x1), (3, x3), (6, x6), (16, x16), (17, x17), (18, x18)] h
noncomputable def R_num_Lay (n : Nat) (args : List Val) (h : Heap) : OptV := (num_Lay_c28_d n) A_num_Lay.fin (params 0 args) h
noncomputable def num_Lay_j0 (n : Nat) (x3 x6 : Val) (h : Heap) : OptV := hold ((num_Lay_c25_d n) A_num_Lay.fin [(3, x3), (6, x6)] h)
theorem R_num_Lay_eq (n : Nat) (a0 a1 a2 : Val) (h : Heap) : R_num_Lay n [a0, a1, a2] h = bnd (cells? a0) fun c1 => bnd (abin .lss a1 (.c (.i .i64 0))) fun v2 => bnd (gd v2 false (some (a1, ((h ++ [some (Row.mk (c1) true)]) ++ [some (Row.mk (List.replicate 256 (.i .u8 0)) true)]))) (some (.no, ((h ++ [some (Row.mk (c1) true)]) ++ [some (Row.mk (List.replicate 256 (.i .u8 0)) true)])))) fun p3 => bnd (gd v2 false (bnd (abin .geq p3.1 (.c (.i .i64 256))) fun v4 => some (v4, p3.2)) (some (.no, p3.2))) fun p5 => bnd (apick v2 (.c (.b true)) p5.1) fun v6 => cnd v6 (bnd (aloadN p5.2 256 ((.c (.p h.length 0)))) fun v7 => bnd (astoreN p5.2 256 ((.c (.p ((h ++ [some (Row.mk (c1) true)])).length 0))) v7) fun h8 => mp (aloadN h8 256 ((.c (.p ((h ++ [some (Row.mk (c1) true)])).length 0)))) fun v => (v, h8)) (bnd (alen a2) fun v9 => num_Lay_l0 n n a1 ((.c (.p h.length 0))) ((.c (.p ((h ++ [some (Row.mk (c1) true)])).length 0))) a2 v9 (.c (.i .i64 0)) p5.2) := by kernel_rfl
theorem num_Lay_l0_eq (n m : Nat) (x1 x3 x6 x16 x17 x18 : Val) (h : Heap) : num_Lay_l0 n (m + 1) x1 x3 x6 x16 x17 x18 h = bnd (abin .lss x18 x17) fun v10 => cnd v10 (bnd (aiAddrL 1 x16 x18) fun v11 => bnd (aload1 h v11) fun v12 => bnd (abin .sub (.c (.i .i64 256)) x1) fun v13 => bnd (abin .geq x18 v13) fun v14 => cnd v14 (num_Lay_j0 n x3 x6 h) (bnd (abin .add x1 x18) fun v15 => bnd (aiAddrA 256 1 x3 v15) fun v16 => bnd (astore1 h v16 v12) fun h17 => bnd (abin .add x18 (.c (.i .i64 1))) fun v18 => num_Lay_l0 n m x1 x3 x6 x16 x17 v18 h17)) (num_Lay_j0 n x3 x6 h) := by kernel_rfl
theorem num_Lay_j0_eq (n : Nat) (x3 x6 : Val) (h : Heap) : num_Lay_j0 n x3 x6 h = bnd (aloadN h 256 x3) fun v19 => bnd (astoreN h 256 x6 v19) fun h20 => mp (aloadN h20 256 x6) fun v => (v, h20) := by kernel_rfl
theorem K_num_Lay : FnK Try.prog 65 A_num_Lay E_num_Lay R_num_Lay := .mk' (sound0) Try.func65 (by kernel_rfl) (by intro n args h; kernel_rfl)
noncomputable def S_num_Lay : Fun := tidy (Lim A_num_Lay E_num_Lay)
theorem S_num_Lay_ok : SOk Try.prog 65 S_num_Lay := K_num_Lay.sok
theorem S_num_Lay_flat {n : Nat} {args : List Val} {h h2 : Heap} {v : Val} (he : R_num_Lay n args (ro h) = some (v, h2)) (hf : v.flat = true) : S_num_Lay args h = some (v, h) := K_num_Lay.flat he hf
def num_Of_o0 : List AOper := [{ dst := some 2, op := .alloc (List.replicate 256 (.i .u8 0)) }]
def num_Of_c0 : ACode := .ops num_Of_o0
def num_Of_o1 : List AOper := [{ dst := some 3, op := .build (List.replicate 256 (.i .u8 0)) [] }, { dst := some 4, op := .mv (.t 0) }, { dst := some 5, op := .call 65 [(.t 3), (.v (.c (.i .i64 0))), (.t 4)] }, { dst := none, op := .storeN 256 (.t 2) (.t 5) }]
def num_Of_c1 : ACode := .ops num_Of_o1
def num_Of_c2 : ACode := .seq [2] num_Of_c1 .ret
def num_Of_c3 : ACode := .seq [0, 2] num_Of_c0 num_Of_c2
def A_num_Of : AFn := ⟨num_Of_c3, [.cellN 2 256]⟩
noncomputable def E_num_Of : Sums := disp 65 S_num_Lay disp0
noncomputable def num_Of_c0_d (n : Nat) : SmV := smOps E_num_Of num_Of_o0
noncomputable def num_Of_c1_d (n : Nat) : SmV := smOps E_num_Of num_Of_o1
noncomputable def num_Of_c2_d (n : Nat) : SmV := smSeq [2] (num_Of_c1_d n) smRet
noncomputable def num_Of_c3_d (n : Nat) : SmV := smSeq [0, 2] (num_Of_c0_d n) (num_Of_c2_d n)
noncomputable def R_num_Of (n : Nat) (args : List Val) (h : Heap) : OptV := (num_Of_c3_d n) A_num_Of.fin (params 0 args) h
theorem R_num_Of_eq (n : Nat) (a0 : Val) (h : Heap) : R_num_Of n [a0] h = bnd (afill (List.replicate 256 (.i .u8 0)) []) fun c1 => bnd (S_num_Lay [(.a c1), .c (.i .i64 0), a0] ((h ++ [some (Row.mk (List.replicate 256 (.i .u8 0)) true)]))) fun p2 => bnd (astoreN p2.2 256 ((.c (.p h.length 0))) p2.1) fun h3 => mp (aloadN h3 256 ((.c (.p h.length 0)))) fun v => (v, h3) := by kernel_rfl
theorem K_num_Of : FnK Try.prog 82 A_num_Of E_num_Of R_num_Of := .mk' (sound1 S_num_Lay_ok sound0) Try.func82 (by kernel_rfl) (by intro n args h; kernel_rfl)
noncomputable def S_num_Of : Fun := tidy (Lim A_num_Of E_num_Of)
theorem S_num_Of_ok : SOk Try.prog 82 S_num_Of := K_num_Of.sok
theorem S_num_Of_flat {n : Nat} {args : List Val} {h h2 : Heap} {v : Val} (he : R_num_Of n args (ro h) = some (v, h2)) (hf : v.flat = true) : S_num_Of args h = some (v, h) := K_num_Of.flat he hf
def num_Get_o0 : List AOper := [{ dst := some 6, op := .mv (.v (.c (.i .u64 0))) }, { dst := some 7, op := .mv (.v (.c (.b false))) }]
def num_Get_c0 : ACode := .ops num_Get_o0
def num_Get_o1 : List AOper := [{ dst := some 10, op := .mv (.t 2) }, { dst := some 11, op := .bin .gtr (.t 10) (.v (.c (.i .i64 8))) }, { dst := some 12, op := .mv (.t 11) }, { dst := some 13, op := .mv (.t 1), guard := some (12, false) }, { dst := some 14, op := .mv (.t 2), guard := some (12, false) }, { dst := some 15, op := .mv (.t 0), guard := some (12, false) }, { dst := some 16, op := .len (.t 15), guard := some (12, false) }, { dst := some 17, op := .call 174 [(.t 13), (.t 14), (.t 16)], guard := some (12, false) }, { dst := some 18, op := .un .not (.t 17), guard := some (12, false) }, { dst := some 19, op := .pick (.t 12) (.v (.c (.b true))) (.t 18) }]
def num_Get_c1 : ACode := .ops num_Get_o1
def num_Get_o2 : List AOper := [{ dst := some 6, op := .mv (.v (.c (.i .u64 0))) }, { dst := some 7, op := .mv (.v (.c (.b false))) }]
def num_Get_c2 : ACode := .ops num_Get_o2
def num_Get_c3 : ACode := .seq [6, 7] num_Get_c2 .ret
def num_Get_c4 : ACode := .cond (.t 19) num_Get_c3 .skip
def num_Get_c5 : ACode := .seq [0, 1, 2, 19] num_Get_c1 num_Get_c4
def num_Get_o3 : List AOper := [{ dst := some 8, op := .mv (.v (.c (.i .u64 0))) }]
def num_Get_c6 : ACode := .ops num_Get_o3
def num_Get_o4 : List AOper := [{ dst := some 20, op := .mv (.t 2) }, { dst := some 21, op := .mv (.v (.c (.i .i64 0))) }]
def num_Get_c7 : ACode := .ops num_Get_o4
def num_Get_o5 : List AOper := [{ dst := some 22, op := .bin .lss (.t 21) (.t 20) }]
def num_Get_c8 : ACode := .ops num_Get_o5
def num_Get_c9 : ACode := .cond (.t 22) .skip (.exit 0)
def num_Get_o6 : List AOper := [{ dst := some 23, op := .mv (.t 21) }, { dst := some 9, op := .mv (.t 23) }]
def num_Get_c10 : ACode := .ops num_Get_o6
def num_Get_o7 : List AOper := [{ dst := some 24, op := .mv (.t 8) }, { dst := some 25, op := .mv (.t 0) }, { dst := some 26, op := .mv (.t 1) }, { dst := some 27, op := .mv (.t 9) }, { dst := some 28, op := .bin .add (.t 26) (.t 27) }, { dst := some 29, op := .iAddrL 1 (.t 25) (.t 28) }, { dst := some 30, op := .load1 (.t 29) }, { dst := some 31, op := .conv .u64 (.t 30) }, { dst := some 32, op := .mv (.t 9) }, { dst := some 33, op := .bin .mul (.v (.c (.i .i64 8))) (.t 32) }, { dst := some 34, op := .conv .u64 (.t 33) }, { dst := some 35, op := .bin .shl (.t 31) (.t 34) }, { dst := some 36, op := .bin .or (.t 24) (.t 35) }, { dst := some 8, op := .mv (.t 36) }]
def num_Get_c11 : ACode := .ops num_Get_o7
def num_Get_c12 : ACode := .seq [0, 1, 8, 9, 20, 21] num_Get_c10 num_Get_c11
def num_Get_c13 : ACode := .block 1 num_Get_c12
def num_Get_o8 : List AOper := [{ dst := some 37, op := .bin .add (.t 21) (.v (.c (.i .i64 1))) }, { dst := some 21, op := .mv (.t 37) }]
def num_Get_c14 : ACode := .ops num_Get_o8
def num_Get_c15 : ACode := .seq [0, 1, 8, 20, 21] num_Get_c13 num_Get_c14
def num_Get_c16 : ACode := .seq [0, 1, 8, 20, 21] num_Get_c9 num_Get_c15
def num_Get_c17 : ACode := .seq [0, 1, 8, 20, 21, 22] num_Get_c8 num_Get_c16
def num_Get_c18 : ACode := .loop [0, 1, 8, 20, 21] num_Get_c17
def num_Get_c19 : ACode := .block 0 num_Get_c18
def num_Get_c20 : ACode := .seq [0, 1, 8, 20, 21] num_Get_c7 num_Get_c19
def num_Get_o9 : List AOper := [{ dst := some 38, op := .mv (.t 8) }, { dst := some 6, op := .mv (.t 38) }, { dst := some 7, op := .mv (.v (.c (.b true))) }]
def num_Get_c21 : ACode := .ops num_Get_o9
def num_Get_c22 : ACode := .seq [6, 7] num_Get_c21 .ret
def num_Get_c23 : ACode := .seq [8] num_Get_c20 num_Get_c22
def num_Get_c24 : ACode := .seq [0, 1, 2, 8] num_Get_c6 num_Get_c23
def num_Get_c25 : ACode := .seq [0, 1, 2] num_Get_c5 num_Get_c24
def num_Get_c26 : ACode := .seq [0, 1, 2] num_Get_c0 num_Get_c25
def A_num_Get : AFn := ⟨num_Get_c26, [.tmp 6, .tmp 7]⟩
noncomputable def E_num_Get : Sums := disp 174 S_num_there disp0
noncomputable def num_Get_c0_d (n : Nat) : SmV := smOps E_num_Get num_Get_o0
noncomputable def num_Get_c1_d (n : Nat) : SmV := smOps E_num_Get num_Get_o1
noncomputable def num_Get_c2_d (n : Nat) : SmV := smOps E_num_Get num_Get_o2
noncomputable def num_Get_c3_d (n : Nat) : SmV := smSeq [6, 7] (num_Get_c2_d n) smRet
noncomputable def num_Get_c4_d (n : Nat) : SmV := smCond (.t 19) (num_Get_c3_d n) smSkip
noncomputable def num_Get_c5_d (n : Nat) : SmV := smSeq [0, 1, 2, 19] (num_Get_c1_d n) (num_Get_c4_d n)
noncomputable def num_Get_c6_d (n : Nat) : SmV := smOps E_num_Get num_Get_o3
noncomputable def num_Get_c7_d (n : Nat) : SmV := smOps E_num_Get num_Get_o4
noncomputable def num_Get_c8_d (n : Nat) : SmV := smOps E_num_Get num_Get_o5
noncomputable def num_Get_c9_d (n : Nat) : SmV := smCond (.t 22) smSkip (smExit 0)
noncomputable def num_Get_c10_d (n : Nat) : SmV := smOps E_num_Get num_Get_o6
noncomputable def num_Get_c11_d (n : Nat) : SmV := smOps E_num_Get num_Get_o7
noncomputable def num_Get_c12_d (n : Nat) : SmV := smSeq [0, 1, 8, 9, 20, 21] (num_Get_c10_d n) (num_Get_c11_d n)
noncomputable def num_Get_c13_d (n : Nat) : SmV := smBlock 1 (num_Get_c12_d n)
noncomputable def num_Get_c14_d (n : Nat) : SmV := smOps E_num_Get num_Get_o8
noncomputable def num_Get_c15_d (n : Nat) : SmV := smSeq [0, 1, 8, 20, 21] (num_Get_c13_d n) (num_Get_c14_d n)
noncomputable def num_Get_c16_d (n : Nat) : SmV := smSeq [0, 1, 8, 20, 21] (num_Get_c9_d n) (num_Get_c15_d n)
noncomputable def num_Get_c17_d (n : Nat) : SmV := smSeq [0, 1, 8, 20, 21, 22] (num_Get_c8_d n) (num_Get_c16_d n)
noncomputable def num_Get_c18_d (n : Nat) : SmV := smLoop n [0, 1, 8, 20, 21] (num_Get_c17_d n)
noncomputable def num_Get_c19_d (n : Nat) : SmV := smBlock 0 (num_Get_c18_d n)
noncomputable def num_Get_c20_d (n : Nat) : SmV := smSeq [0, 1, 8, 20, 21] (num_Get_c7_d n) (num_Get_c19_d n)
noncomputable def num_Get_c21_d (n : Nat) : SmV := smOps E_num_Get num_Get_o9
noncomputable def num_Get_c22_d (n : Nat) : SmV := smSeq [6, 7] (num_Get_c21_d n) smRet
noncomputable def num_Get_c23_d (n : Nat) : SmV := smSeq [8] (num_Get_c20_d n) (num_Get_c22_d n)
noncomputable def num_Get_c24_d (n : Nat) : SmV := smSeq [0, 1, 2, 8] (num_Get_c6_d n) (num_Get_c23_d n)
noncomputable def num_Get_c25_d (n : Nat) : SmV := smSeq [0, 1, 2] (num_Get_c5_d n) (num_Get_c24_d n)
noncomputable def num_Get_c26_d (n : Nat) : SmV := smSeq [0, 1, 2] (num_Get_c0_d n) (num_Get_c25_d n)
noncomputable def num_Get_k0 (n : Nat) : AExit → Env → Heap → OptV := fun x e h => match x with | .normal => hold ((num_Get_c22_d n) A_num_Get.fin (e.keep [8]) h) | .exit id => A_num_Get.fin (.exit id) e h | .ret => A_num_Get.fin .ret e h
noncomputable def num_Get_k1 (n : Nat) : AExit → Env → Heap → OptV := fun x e h => match x with | .exit i => bif Nat.beq i 0 then (num_Get_k0 n) .normal e h else (num_Get_k0 n) (.exit i) e h | .normal => (num_Get_k0 n) .normal e h | .ret => (num_Get_k0 n) .ret e h
noncomputable def num_Get_l0 (n m : Nat) (x0 x1 x8 x20 x21 : Val) (h : Heap) : OptV := around (num_Get_c17_d n) [0, 1, 8, 20, 21] (num_Get_k1 n) m [(0, x0), (1, x1), (8, x8), (20, x20), (21, x21)] h
noncomputable def R_num_Get (n : Nat) (args : List Val) (h : Heap) : OptV := (num_Get_c26_d n) A_num_Get.fin (params 0 args) h
theorem R_num_Get_eq (n : Nat) (a0 a1 a2 : Val) (h : Heap) : R_num_Get n [a0, a1, a2] h = bnd (abin .gtr a2 (.c (.i .i64 8))) fun v1 => bnd (gd v1 false (some (a1, h)) (some (.no, h))) fun p2 => bnd (gd v1 false (some (a2, p2.2)) (some (.no, p2.2))) fun p3 => bnd (gd v1 false (some (a0, p3.2)) (some (.no, p3.2))) fun p4 => bnd (gd v1 false (bnd (alen p4.1) fun v5 => some (v5, p4.2)) (some (.no, p4.2))) fun p6 => bnd (gd v1 false (bnd (S_num_there [p2.1, p3.1, p6.1] p6.2) fun p7 => some (p7.1, p7.2)) (some (.no, p6.2))) fun p8 => bnd (gd v1 false (bnd (aun .not p8.1) fun v9 => some (v9, p8.2)) (some (.no, p8.2))) fun p10 => bnd (apick v1 (.c (.b true)) p10.1) fun v11 => cnd v11 (tupN [some (.c (.i .u64 0)), some (.c (.b false))] p10.2) (num_Get_l0 n n a0 a1 (.c (.i .u64 0)) a2 (.c (.i .i64 0)) p10.2) := by kernel_rfl
theorem num_Get_l0_eq (n m : Nat) (x0 x1 x8 x20 x21 : Val) (h : Heap) : num_Get_l0 n (m + 1) x0 x1 x8 x20 x21 h = bnd (abin .lss x21 x20) fun v12 => cnd v12 (bnd (abin .add x1 x21) fun v13 => bnd (aiAddrL 1 x0 v13) fun v14 => bnd (aload1 h v14) fun v15 => bnd (aconv .u64 v15) fun v16 => bnd (abin .mul (.c (.i .i64 8)) x21) fun v17 => bnd (aconv .u64 v17) fun v18 => bnd (abin .shl v16 v18) fun v19 => bnd (abin .or x8 v19) fun v20 => bnd (abin .add x21 (.c (.i .i64 1))) fun v21 => num_Get_l0 n m x0 x1 v20 x20 v21 h) (tupN [some x8, some (.c (.b true))] h) := by kernel_rfl
theorem K_num_Get : FnK Try.prog 61 A_num_Get E_num_Get R_num_Get := .mk' (sound1 S_num_there_ok sound0) Try.func61 (by kernel_rfl) (by intro n args h; kernel_rfl)
noncomputable def S_num_Get : Fun := tidy (Lim A_num_Get E_num_Get)
theorem S_num_Get_ok : SOk Try.prog 61 S_num_Get := K_num_Get.sok
theorem S_num_Get_flat {n : Nat} {args : List Val} {h h2 : Heap} {v : Val} (he : R_num_Get n args (ro h) = some (v, h2)) (hf : v.flat = true) : S_num_Get args h = some (v, h) := K_num_Get.flat he hf
def num_Cut_o0 : List AOper := [{ dst := some 3, op := .box (.t 0) }, { dst := some 6, op := .nilrow 1 }]
def num_Cut_c0 : ACode := .ops num_Cut_o0
def num_Cut_o1 : List AOper := [{ dst := some 9, op := .mv (.t 1) }, { dst := some 10, op := .bin .lss (.t 9) (.v (.c (.i .i64 0))) }, { dst := some 11, op := .mv (.t 10) }, { dst := some 12, op := .mv (.t 1), guard := some (11, false) }, { dst := some 13, op := .bin .geq (.t 12) (.v (.c (.i .i64 256))), guard := some (11, false) }, { dst := some 14, op := .pick (.t 11) (.v (.c (.b true))) (.t 13) }, { dst := some 15, op := .mv (.t 14) }, { dst := some 16, op := .mv (.t 2), guard := some (15, false) }, { dst := some 17, op := .bin .lss (.t 16) (.v (.c (.i .i64 1))), guard := some (15, false) }, { dst := some 18, op := .pick (.t 15) (.v (.c (.b true))) (.t 17) }]
def num_Cut_c1 : ACode := .ops num_Cut_o1
def num_Cut_o2 : List AOper := [{ dst := some 6, op := .nilrow 1 }]
def num_Cut_c2 : ACode := .ops num_Cut_o2
def num_Cut_c3 : ACode := .seq [6] num_Cut_c2 .ret
def num_Cut_c4 : ACode := .cond (.t 18) num_Cut_c3 .skip
def num_Cut_c5 : ACode := .seq [1, 2, 3, 18] num_Cut_c1 num_Cut_c4
def num_Cut_o3 : List AOper := [{ dst := some 19, op := .mv (.t 2) }, { dst := some 20, op := .mv (.t 1) }, { dst := some 21, op := .bin .sub (.v (.c (.i .i64 256))) (.t 20) }, { dst := some 22, op := .min (.t 19) (.t 21) }, { dst := some 2, op := .mv (.t 22) }]
def num_Cut_c6 : ACode := .ops num_Cut_o3
def num_Cut_o4 : List AOper := [{ dst := some 23, op := .mv (.t 2) }, { dst := some 24, op := .mkSl 1 ([.i .u8 0]) (.t 23) (.t 23) }, { dst := some 7, op := .mv (.t 24) }]
def num_Cut_c7 : ACode := .ops num_Cut_o4
def num_Cut_o5 : List AOper := [{ dst := some 25, op := .mv (.t 2) }, { dst := some 26, op := .mv (.v (.c (.i .i64 0))) }]
def num_Cut_c8 : ACode := .ops num_Cut_o5
def num_Cut_o6 : List AOper := [{ dst := some 27, op := .bin .lss (.t 26) (.t 25) }]
def num_Cut_c9 : ACode := .ops num_Cut_o6
def num_Cut_c10 : ACode := .cond (.t 27) .skip (.exit 0)
def num_Cut_o7 : List AOper := [{ dst := some 28, op := .mv (.t 26) }, { dst := some 8, op := .mv (.t 28) }]
def num_Cut_c11 : ACode := .ops num_Cut_o7
def num_Cut_o8 : List AOper := [{ dst := some 29, op := .mv (.t 7) }, { dst := some 30, op := .mv (.t 8) }, { dst := some 31, op := .mv (.t 1) }, { dst := some 32, op := .mv (.t 8) }, { dst := some 33, op := .bin .add (.t 31) (.t 32) }, { dst := some 34, op := .iAddrA 256 1 (.t 3) (.t 33) }, { dst := some 35, op := .load1 (.t 34) }, { dst := some 36, op := .iAddrL 1 (.t 29) (.t 30) }, { dst := none, op := .store1 (.t 36) (.t 35) }]
def num_Cut_c12 : ACode := .ops num_Cut_o8
def num_Cut_c13 : ACode := .seq [1, 3, 7, 8, 25, 26] num_Cut_c11 num_Cut_c12
def num_Cut_c14 : ACode := .block 1 num_Cut_c13
def num_Cut_o9 : List AOper := [{ dst := some 37, op := .bin .add (.t 26) (.v (.c (.i .i64 1))) }, { dst := some 26, op := .mv (.t 37) }]
def num_Cut_c15 : ACode := .ops num_Cut_o9
def num_Cut_c16 : ACode := .seq [1, 3, 7, 25, 26] num_Cut_c14 num_Cut_c15
def num_Cut_c17 : ACode := .seq [1, 3, 7, 25, 26] num_Cut_c10 num_Cut_c16
def num_Cut_c18 : ACode := .seq [1, 3, 7, 25, 26, 27] num_Cut_c9 num_Cut_c17
def num_Cut_c19 : ACode := .loop [1, 3, 7, 25, 26] num_Cut_c18
def num_Cut_c20 : ACode := .block 0 num_Cut_c19
def num_Cut_c21 : ACode := .seq [1, 3, 7, 25, 26] num_Cut_c8 num_Cut_c20
def num_Cut_o10 : List AOper := [{ dst := some 38, op := .mv (.t 7) }, { dst := some 6, op := .mv (.t 38) }]
def num_Cut_c22 : ACode := .ops num_Cut_o10
def num_Cut_c23 : ACode := .seq [6] num_Cut_c22 .ret
def num_Cut_c24 : ACode := .seq [7] num_Cut_c21 num_Cut_c23
def num_Cut_c25 : ACode := .seq [1, 2, 3, 7] num_Cut_c7 num_Cut_c24
def num_Cut_c26 : ACode := .seq [1, 2, 3] num_Cut_c6 num_Cut_c25
def num_Cut_c27 : ACode := .seq [1, 2, 3] num_Cut_c5 num_Cut_c26
def num_Cut_c28 : ACode := .seq [1, 2, 3] num_Cut_c0 num_Cut_c27
def A_num_Cut : AFn := ⟨num_Cut_c28, [.tmp 6]⟩
noncomputable def E_num_Cut : Sums := disp0
noncomputable def num_Cut_c0_d (n : Nat) : SmV := smOps E_num_Cut num_Cut_o0
noncomputable def num_Cut_c1_d (n : Nat) : SmV := smOps E_num_Cut num_Cut_o1
noncomputable def num_Cut_c2_d (n : Nat) : SmV := smOps E_num_Cut num_Cut_o2
noncomputable def num_Cut_c3_d (n : Nat) : SmV := smSeq [6] (num_Cut_c2_d n) smRet
noncomputable def num_Cut_c4_d (n : Nat) : SmV := smCond (.t 18) (num_Cut_c3_d n) smSkip
noncomputable def num_Cut_c5_d (n : Nat) : SmV := smSeq [1, 2, 3, 18] (num_Cut_c1_d n) (num_Cut_c4_d n)
noncomputable def num_Cut_c6_d (n : Nat) : SmV := smOps E_num_Cut num_Cut_o3
noncomputable def num_Cut_c7_d (n : Nat) : SmV := smOps E_num_Cut num_Cut_o4
noncomputable def num_Cut_c8_d (n : Nat) : SmV := smOps E_num_Cut num_Cut_o5
noncomputable def num_Cut_c9_d (n : Nat) : SmV := smOps E_num_Cut num_Cut_o6
noncomputable def num_Cut_c10_d (n : Nat) : SmV := smCond (.t 27) smSkip (smExit 0)
noncomputable def num_Cut_c11_d (n : Nat) : SmV := smOps E_num_Cut num_Cut_o7
noncomputable def num_Cut_c12_d (n : Nat) : SmV := smOps E_num_Cut num_Cut_o8
noncomputable def num_Cut_c13_d (n : Nat) : SmV := smSeq [1, 3, 7, 8, 25, 26] (num_Cut_c11_d n) (num_Cut_c12_d n)
noncomputable def num_Cut_c14_d (n : Nat) : SmV := smBlock 1 (num_Cut_c13_d n)
noncomputable def num_Cut_c15_d (n : Nat) : SmV := smOps E_num_Cut num_Cut_o9
noncomputable def num_Cut_c16_d (n : Nat) : SmV := smSeq [1, 3, 7, 25, 26] (num_Cut_c14_d n) (num_Cut_c15_d n)
noncomputable def num_Cut_c17_d (n : Nat) : SmV := smSeq [1, 3, 7, 25, 26] (num_Cut_c10_d n) (num_Cut_c16_d n)
noncomputable def num_Cut_c18_d (n : Nat) : SmV := smSeq [1, 3, 7, 25, 26, 27] (num_Cut_c9_d n) (num_Cut_c17_d n)
noncomputable def num_Cut_c19_d (n : Nat) : SmV := smLoop n [1, 3, 7, 25, 26] (num_Cut_c18_d n)
noncomputable def num_Cut_c20_d (n : Nat) : SmV := smBlock 0 (num_Cut_c19_d n)
noncomputable def num_Cut_c21_d (n : Nat) : SmV := smSeq [1, 3, 7, 25, 26] (num_Cut_c8_d n) (num_Cut_c20_d n)
noncomputable def num_Cut_c22_d (n : Nat) : SmV := smOps E_num_Cut num_Cut_o10
noncomputable def num_Cut_c23_d (n : Nat) : SmV := smSeq [6] (num_Cut_c22_d n) smRet
noncomputable def num_Cut_c24_d (n : Nat) : SmV := smSeq [7] (num_Cut_c21_d n) (num_Cut_c23_d n)
noncomputable def num_Cut_c25_d (n : Nat) : SmV := smSeq [1, 2, 3, 7] (num_Cut_c7_d n) (num_Cut_c24_d n)
noncomputable def num_Cut_c26_d (n : Nat) : SmV := smSeq [1, 2, 3] (num_Cut_c6_d n) (num_Cut_c25_d n)
noncomputable def num_Cut_c27_d (n : Nat) : SmV := smSeq [1, 2, 3] (num_Cut_c5_d n) (num_Cut_c26_d n)
noncomputable def num_Cut_c28_d (n : Nat) : SmV := smSeq [1, 2, 3] (num_Cut_c0_d n) (num_Cut_c27_d n)
noncomputable def num_Cut_k0 (n : Nat) : AExit → Env → Heap → OptV := fun x e h => match x with | .normal => hold ((num_Cut_c23_d n) A_num_Cut.fin (e.keep [7]) h) | .exit id => A_num_Cut.fin (.exit id) e h | .ret => A_num_Cut.fin .ret e h
noncomputable def num_Cut_k1 (n : Nat) : AExit → Env → Heap → OptV := fun x e h => match x with | .exit i => bif Nat.beq i 0 then (num_Cut_k0 n) .normal e h else (num_Cut_k0 n) (.exit i) e h | .normal => (num_Cut_k0 n) .normal e h | .ret => (num_Cut_k0 n) .ret e h
noncomputable def num_Cut_l0 (n m : Nat) (x1 x3 x7 x25 x26 : Val) (h : Heap) : OptV := around (num_Cut_c18_d n) [1, 3, 7, 25, 26] (num_Cut_k1 n) m [(1, x1), (3, x3), (7, x7), (25, x25), (26, x26)] h
noncomputable def R_num_Cut (n : Nat) (args : List Val) (h : Heap) : OptV := (num_Cut_c28_d n) A_num_Cut.fin (params 0 args) h
theorem R_num_Cut_eq (n : Nat) (a0 a1 a2 : Val) (h : Heap) : R_num_Cut n [a0, a1, a2] h = bnd (cells? a0) fun c1 => bnd (abin .lss a1 (.c (.i .i64 0))) fun v2 => bnd (gd v2 false (some (a1, ((h ++ [some (Row.mk (c1) true)]) ++ [some (Row.mk ([]) true)]))) (some (.no, ((h ++ [some (Row.mk (c1) true)]) ++ [some (Row.mk ([]) true)])))) fun p3 => bnd (gd v2 false (bnd (abin .geq p3.1 (.c (.i .i64 256))) fun v4 => some (v4, p3.2)) (some (.no, p3.2))) fun p5 => bnd (apick v2 (.c (.b true)) p5.1) fun v6 => bnd (gd v6 false (some (a2, p5.2)) (some (.no, p5.2))) fun p7 => bnd (gd v6 false (bnd (abin .lss p7.1 (.c (.i .i64 1))) fun v8 => some (v8, p7.2)) (some (.no, p7.2))) fun p9 => bnd (apick v6 (.c (.b true)) p9.1) fun v10 => cnd v10 (some (((.c (.sl p9.2.length 0 0 1))), (p9.2 ++ [some (Row.mk ([]) true)]))) (bnd (abin .sub (.c (.i .i64 256)) a1) fun v11 => bnd (amin a2 v11) fun v12 => bnd (amkn v12 v12) fun n13 => num_Cut_l0 n n a1 ((.c (.p h.length 0))) ((.c (.sl p9.2.length 0 n13 1))) v12 (.c (.i .i64 0)) ((p9.2 ++ [some (Row.mk (rows ([.i .u8 0]) n13) true)]))) := by kernel_rfl
theorem num_Cut_l0_eq (n m : Nat) (x1 x3 x7 x25 x26 : Val) (h : Heap) : num_Cut_l0 n (m + 1) x1 x3 x7 x25 x26 h = bnd (abin .lss x26 x25) fun v14 => cnd v14 (bnd (abin .add x1 x26) fun v15 => bnd (aiAddrA 256 1 x3 v15) fun v16 => bnd (aload1 h v16) fun v17 => bnd (aiAddrL 1 x7 x26) fun v18 => bnd (astore1 h v18 v17) fun h19 => bnd (abin .add x26 (.c (.i .i64 1))) fun v20 => num_Cut_l0 n m x1 x3 x7 x25 v20 h19) (some (x7, h)) := by kernel_rfl
theorem K_num_Cut : FnK Try.prog 66 A_num_Cut E_num_Cut R_num_Cut := .mk' (sound0) Try.func66 (by kernel_rfl) (by intro n args h; kernel_rfl)
noncomputable def S_num_Cut : Fun := tidy (Lim A_num_Cut E_num_Cut)
theorem S_num_Cut_ok : SOk Try.prog 66 S_num_Cut := K_num_Cut.sok
theorem S_num_Cut_low {n : Nat} {args : List Val} {h h2 : Heap} {v : Val} (he : R_num_Cut n args (ro h) = some (v, h2)) (hf : v.low h.length = true) : S_num_Cut args h = some (v, h) := K_num_Cut.low he hf
theorem S_num_Cut_out {n : Nat} {args : List Val} {h h2 : Heap} {v : Val} {sz k : Nat} {cs : List Cell} (he : R_num_Cut n args (ro h) = some (v, h2)) (ho : Out h.length h2 v sz k cs) (hf : flats cs = true) : S_num_Cut args h = some (.c (.sl h.length 0 k sz), h ++ [some ⟨cs, true⟩]) := K_num_Cut.out he ho hf
end Go.Proofs.Ytbbkpmbepljhkaa
