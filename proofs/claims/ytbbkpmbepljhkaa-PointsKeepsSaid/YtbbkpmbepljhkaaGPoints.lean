/- Points: the Go functions of this package as the abstract evaluator computes them: printed by a program, checked by Lean. -/
import Derived.Test.YtbbkpmbepljhkaaEscS
import Derived.Test.YtbbkpmbepljhkaaChecked
import Derived.KernelRfl
import Derived.Test.YtbbkpmbepljhkaaGNum
namespace Go.Proofs.Ytbbkpmbepljhkaa
open Go Go.Esc
set_option maxRecDepth 100000
set_option linter.all false
def points_there_o0 : List AOper := [{ dst := some 2, op := .mv (.v (.c (.b false))) }]
def points_there_c0 : ACode := .ops points_there_o0
def points_there_o1 : List AOper := [{ dst := some 3, op := .mv (.t 0) }, { dst := some 4, op := .bin .geq (.t 3) (.v (.c (.i .i64 0))) }, { dst := some 5, op := .mv (.t 4) }, { dst := some 6, op := .mv (.t 0), guard := some (5, true) }, { dst := some 7, op := .bin .lss (.t 6) (.v (.c (.i .i64 128))), guard := some (5, true) }, { dst := some 8, op := .pick (.t 5) (.t 7) (.v (.c (.b false))) }, { dst := some 2, op := .mv (.t 8) }]
def points_there_c1 : ACode := .ops points_there_o1
def points_there_c2 : ACode := .seq [2] points_there_c1 .ret
def points_there_c3 : ACode := .seq [0] points_there_c0 points_there_c2
def A_points_there : AFn := ⟨points_there_c3, [.tmp 2]⟩
noncomputable def E_points_there : Sums := disp0
noncomputable def points_there_c0_d (n : Nat) : SmV := smOps E_points_there points_there_o0
noncomputable def points_there_c1_d (n : Nat) : SmV := smOps E_points_there points_there_o1
noncomputable def points_there_c2_d (n : Nat) : SmV := smSeq [2] (points_there_c1_d n) smRet
noncomputable def points_there_c3_d (n : Nat) : SmV := smSeq [0] (points_there_c0_d n) (points_there_c2_d n)
noncomputable def R_points_there (n : Nat) (args : List Val) (h : Heap) : OptV := (points_there_c3_d n) A_points_there.fin (params 0 args) h
theorem R_points_there_eq (n : Nat) (a0 : Val) (h : Heap) : R_points_there n [a0] h = bnd (abin .geq a0 (.c (.i .i64 0))) fun v1 => bnd (gd v1 true (some (a0, h)) (some (.no, h))) fun p2 => bnd (gd v1 true (bnd (abin .lss p2.1 (.c (.i .i64 128))) fun v3 => some (v3, p2.2)) (some (.no, p2.2))) fun p4 => bnd (apick v1 p4.1 (.c (.b false))) fun v5 => some (v5, p4.2) := by kernel_rfl
theorem K_points_there : FnK Try.prog 175 A_points_there E_points_there R_points_there := .mk' (sound0) Try.func175 (by kernel_rfl) (by intro n args h; kernel_rfl)
noncomputable def S_points_there : Fun := tidy (Lim A_points_there E_points_there)
theorem S_points_there_ok : SOk Try.prog 175 S_points_there := K_points_there.sok
theorem S_points_there_flat {n : Nat} {args : List Val} {h h2 : Heap} {v : Val} (he : R_points_there n args (ro h) = some (v, h2)) (hf : v.flat = true) : S_points_there args h = some (v, h) := K_points_there.flat he hf
def points_Get_o0 : List AOper := [{ dst := some 2, op := .box (.t 0) }, { dst := some 4, op := .mv (.v (.c (.i .i64 0))) }]
def points_Get_c0 : ACode := .ops points_Get_o0
def points_Get_o1 : List AOper := [{ dst := some 5, op := .mv (.t 1) }, { dst := some 6, op := .call 175 [(.t 5)] }, { dst := some 7, op := .un .not (.t 6) }]
def points_Get_c1 : ACode := .ops points_Get_o1
def points_Get_o2 : List AOper := [{ dst := some 4, op := .mv (.v (.c (.i .i64 0))) }]
def points_Get_c2 : ACode := .ops points_Get_o2
def points_Get_c3 : ACode := .seq [4] points_Get_c2 .ret
def points_Get_c4 : ACode := .cond (.t 7) points_Get_c3 .skip
def points_Get_c5 : ACode := .seq [1, 2, 7] points_Get_c1 points_Get_c4
def points_Get_o3 : List AOper := [{ dst := some 8, op := .loadN 256 (.t 2) }, { dst := some 9, op := .mv (.t 1) }, { dst := some 10, op := .bin .mul (.v (.c (.i .i64 2))) (.t 9) }, { dst := some 11, op := .call 59 [(.t 8), (.t 10), (.v (.c (.i .i64 2)))] }, { dst := some 4, op := .mv (.t 11) }]
def points_Get_c6 : ACode := .ops points_Get_o3
def points_Get_c7 : ACode := .seq [4] points_Get_c6 .ret
def points_Get_c8 : ACode := .seq [1, 2] points_Get_c5 points_Get_c7
def points_Get_c9 : ACode := .seq [1, 2] points_Get_c0 points_Get_c8
def A_points_Get : AFn := ⟨points_Get_c9, [.tmp 4]⟩
noncomputable def E_points_Get : Sums := disp 175 S_points_there (disp 59 S_num_At disp0)
noncomputable def points_Get_c0_d (n : Nat) : SmV := smOps E_points_Get points_Get_o0
noncomputable def points_Get_c1_d (n : Nat) : SmV := smOps E_points_Get points_Get_o1
noncomputable def points_Get_c2_d (n : Nat) : SmV := smOps E_points_Get points_Get_o2
noncomputable def points_Get_c3_d (n : Nat) : SmV := smSeq [4] (points_Get_c2_d n) smRet
noncomputable def points_Get_c4_d (n : Nat) : SmV := smCond (.t 7) (points_Get_c3_d n) smSkip
noncomputable def points_Get_c5_d (n : Nat) : SmV := smSeq [1, 2, 7] (points_Get_c1_d n) (points_Get_c4_d n)
noncomputable def points_Get_c6_d (n : Nat) : SmV := smOps E_points_Get points_Get_o3
noncomputable def points_Get_c7_d (n : Nat) : SmV := smSeq [4] (points_Get_c6_d n) smRet
noncomputable def points_Get_c8_d (n : Nat) : SmV := smSeq [1, 2] (points_Get_c5_d n) (points_Get_c7_d n)
noncomputable def points_Get_c9_d (n : Nat) : SmV := smSeq [1, 2] (points_Get_c0_d n) (points_Get_c8_d n)
noncomputable def R_points_Get (n : Nat) (args : List Val) (h : Heap) : OptV := (points_Get_c9_d n) A_points_Get.fin (params 0 args) h
theorem R_points_Get_eq (n : Nat) (a0 a1 : Val) (h : Heap) : R_points_Get n [a0, a1] h = bnd (cells? a0) fun c1 => bnd (S_points_there [a1] ((h ++ [some (Row.mk (c1) true)]))) fun p2 => bnd (aun .not p2.1) fun v3 => cnd v3 (some ((.c (.i .i64 0)), p2.2)) (bnd (aloadN p2.2 256 ((.c (.p h.length 0)))) fun v4 => bnd (abin .mul (.c (.i .i64 2)) a1) fun v5 => bnd (S_num_At [v4, v5, .c (.i .i64 2)] p2.2) fun p6 => some (p6.1, p6.2)) := by kernel_rfl
theorem K_points_Get : FnK Try.prog 87 A_points_Get E_points_Get R_points_Get := .mk' (sound1 S_points_there_ok (sound1 S_num_At_ok sound0)) Try.func87 (by kernel_rfl) (by intro n args h; kernel_rfl)
noncomputable def S_points_Get : Fun := tidy (Lim A_points_Get E_points_Get)
theorem S_points_Get_ok : SOk Try.prog 87 S_points_Get := K_points_Get.sok
theorem S_points_Get_flat {n : Nat} {args : List Val} {h h2 : Heap} {v : Val} (he : R_points_Get n args (ro h) = some (v, h2)) (hf : v.flat = true) : S_points_Get args h = some (v, h) := K_points_Get.flat he hf
def points_fine_o0 : List AOper := [{ dst := some 2, op := .mv (.v (.c (.b false))) }]
def points_fine_c0 : ACode := .ops points_fine_o0
def points_fine_o1 : List AOper := [{ dst := some 3, op := .mv (.t 0) }, { dst := some 4, op := .bin .geq (.t 3) (.v (.c (.i .i64 0))) }, { dst := some 5, op := .mv (.t 4) }, { dst := some 6, op := .mv (.t 0), guard := some (5, true) }, { dst := some 7, op := .bin .leq (.t 6) (.v (.c (.i .i64 65535))), guard := some (5, true) }, { dst := some 8, op := .pick (.t 5) (.t 7) (.v (.c (.b false))) }, { dst := some 2, op := .mv (.t 8) }]
def points_fine_c1 : ACode := .ops points_fine_o1
def points_fine_c2 : ACode := .seq [2] points_fine_c1 .ret
def points_fine_c3 : ACode := .seq [0] points_fine_c0 points_fine_c2
def A_points_fine : AFn := ⟨points_fine_c3, [.tmp 2]⟩
noncomputable def E_points_fine : Sums := disp0
noncomputable def points_fine_c0_d (n : Nat) : SmV := smOps E_points_fine points_fine_o0
noncomputable def points_fine_c1_d (n : Nat) : SmV := smOps E_points_fine points_fine_o1
noncomputable def points_fine_c2_d (n : Nat) : SmV := smSeq [2] (points_fine_c1_d n) smRet
noncomputable def points_fine_c3_d (n : Nat) : SmV := smSeq [0] (points_fine_c0_d n) (points_fine_c2_d n)
noncomputable def R_points_fine (n : Nat) (args : List Val) (h : Heap) : OptV := (points_fine_c3_d n) A_points_fine.fin (params 0 args) h
theorem R_points_fine_eq (n : Nat) (a0 : Val) (h : Heap) : R_points_fine n [a0] h = bnd (abin .geq a0 (.c (.i .i64 0))) fun v1 => bnd (gd v1 true (some (a0, h)) (some (.no, h))) fun p2 => bnd (gd v1 true (bnd (abin .leq p2.1 (.c (.i .i64 65535))) fun v3 => some (v3, p2.2)) (some (.no, p2.2))) fun p4 => bnd (apick v1 p4.1 (.c (.b false))) fun v5 => some (v5, p4.2) := by kernel_rfl
theorem K_points_fine : FnK Try.prog 176 A_points_fine E_points_fine R_points_fine := .mk' (sound0) Try.func176 (by kernel_rfl) (by intro n args h; kernel_rfl)
noncomputable def S_points_fine : Fun := tidy (Lim A_points_fine E_points_fine)
theorem S_points_fine_ok : SOk Try.prog 176 S_points_fine := K_points_fine.sok
theorem S_points_fine_flat {n : Nat} {args : List Val} {h h2 : Heap} {v : Val} (he : R_points_fine n args (ro h) = some (v, h2)) (hf : v.flat = true) : S_points_fine args h = some (v, h) := K_points_fine.flat he hf
def points_Make_o0 : List AOper := [{ dst := some 2, op := .alloc (List.replicate 256 (.i .u8 0)) }, { dst := some 3, op := .mv (.v (.c (.i .i64 0))) }]
def points_Make_c0 : ACode := .ops points_Make_o0
def points_Make_o1 : List AOper := [{ dst := some 4, op := .alloc (List.replicate 256 (.i .u8 0)) }]
def points_Make_c1 : ACode := .ops points_Make_o1
def points_Make_o2 : List AOper := [{ dst := some 7, op := .mv (.t 0) }, { dst := some 8, op := .len (.t 7) }, { dst := some 9, op := .bin .gtr (.t 8) (.v (.c (.i .i64 128))) }]
def points_Make_c2 : ACode := .ops points_Make_o2
def points_Make_o3 : List AOper := [{ dst := some 10, op := .loadN 256 (.t 4) }, { dst := none, op := .storeN 256 (.t 2) (.t 10) }, { dst := some 3, op := .mv (.v (.c (.i .i64 2))) }]
def points_Make_c3 : ACode := .ops points_Make_o3
def points_Make_c4 : ACode := .seq [2, 3] points_Make_c3 .ret
def points_Make_c5 : ACode := .cond (.t 9) points_Make_c4 .skip
def points_Make_c6 : ACode := .seq [0, 2, 4, 9] points_Make_c2 points_Make_c5
def points_Make_o4 : List AOper := [{ dst := some 11, op := .mv (.t 0) }, { dst := some 12, op := .len (.t 11) }, { dst := some 13, op := .mv (.v (.c (.i .i64 0))) }]
def points_Make_c7 : ACode := .ops points_Make_o4
def points_Make_o5 : List AOper := [{ dst := some 14, op := .bin .lss (.t 13) (.t 12) }]
def points_Make_c8 : ACode := .ops points_Make_o5
def points_Make_c9 : ACode := .cond (.t 14) .skip (.exit 0)
def points_Make_o6 : List AOper := [{ dst := some 15, op := .mv (.t 13) }, { dst := some 16, op := .iAddrL 1 (.t 11) (.t 13) }, { dst := some 17, op := .load1 (.t 16) }, { dst := some 5, op := .mv (.t 15) }, { dst := some 6, op := .mv (.t 17) }]
def points_Make_c10 : ACode := .ops points_Make_o6
def points_Make_o7 : List AOper := [{ dst := some 18, op := .mv (.t 6) }, { dst := some 19, op := .call 176 [(.t 18)] }, { dst := some 20, op := .un .not (.t 19) }]
def points_Make_c11 : ACode := .ops points_Make_o7
def points_Make_o8 : List AOper := [{ dst := some 21, op := .build (List.replicate 256 (.i .u8 0)) [] }, { dst := none, op := .storeN 256 (.t 2) (.t 21) }, { dst := some 3, op := .mv (.v (.c (.i .i64 1))) }]
def points_Make_c12 : ACode := .ops points_Make_o8
def points_Make_c13 : ACode := .seq [2, 3] points_Make_c12 .ret
def points_Make_c14 : ACode := .cond (.t 20) points_Make_c13 .skip
def points_Make_c15 : ACode := .seq [2, 4, 5, 6, 11, 12, 13, 20] points_Make_c11 points_Make_c14
def points_Make_o9 : List AOper := [{ dst := some 22, op := .loadN 256 (.t 4) }, { dst := some 23, op := .mv (.t 5) }, { dst := some 24, op := .bin .mul (.v (.c (.i .i64 2))) (.t 23) }, { dst := some 25, op := .mv (.t 6) }, { dst := some 26, op := .call 58 [(.t 22), (.t 24), (.v (.c (.i .i64 2))), (.t 25)] }, { dst := none, op := .storeN 256 (.t 4) (.t 26) }]
def points_Make_c16 : ACode := .ops points_Make_o9
def points_Make_c17 : ACode := .seq [2, 4, 5, 6, 11, 12, 13] points_Make_c15 points_Make_c16
def points_Make_c18 : ACode := .seq [2, 4, 5, 6, 11, 12, 13] points_Make_c10 points_Make_c17
def points_Make_c19 : ACode := .block 1 points_Make_c18
def points_Make_o10 : List AOper := [{ dst := some 27, op := .bin .add (.t 13) (.v (.c (.i .i64 1))) }, { dst := some 13, op := .mv (.t 27) }]
def points_Make_c20 : ACode := .ops points_Make_o10
def points_Make_c21 : ACode := .seq [2, 4, 11, 12, 13] points_Make_c19 points_Make_c20
def points_Make_c22 : ACode := .seq [2, 4, 11, 12, 13] points_Make_c9 points_Make_c21
def points_Make_c23 : ACode := .seq [2, 4, 11, 12, 13, 14] points_Make_c8 points_Make_c22
def points_Make_c24 : ACode := .loop [2, 4, 11, 12, 13] points_Make_c23
def points_Make_c25 : ACode := .block 0 points_Make_c24
def points_Make_c26 : ACode := .seq [2, 4, 11, 12, 13] points_Make_c7 points_Make_c25
def points_Make_o11 : List AOper := [{ dst := some 28, op := .loadN 256 (.t 4) }, { dst := none, op := .storeN 256 (.t 2) (.t 28) }, { dst := some 3, op := .mv (.v (.c (.i .i64 0))) }]
def points_Make_c27 : ACode := .ops points_Make_o11
def points_Make_c28 : ACode := .seq [2, 3] points_Make_c27 .ret
def points_Make_c29 : ACode := .seq [2, 4] points_Make_c26 points_Make_c28
def points_Make_c30 : ACode := .seq [0, 2, 4] points_Make_c6 points_Make_c29
def points_Make_c31 : ACode := .seq [0, 2, 4] points_Make_c1 points_Make_c30
def points_Make_c32 : ACode := .seq [0, 2] points_Make_c0 points_Make_c31
def A_points_Make : AFn := ⟨points_Make_c32, [.cellN 2 256, .tmp 3]⟩
noncomputable def E_points_Make : Sums := disp 176 S_points_fine (disp 58 S_num_With disp0)
noncomputable def points_Make_c0_d (n : Nat) : SmV := smOps E_points_Make points_Make_o0
noncomputable def points_Make_c1_d (n : Nat) : SmV := smOps E_points_Make points_Make_o1
noncomputable def points_Make_c2_d (n : Nat) : SmV := smOps E_points_Make points_Make_o2
noncomputable def points_Make_c3_d (n : Nat) : SmV := smOps E_points_Make points_Make_o3
noncomputable def points_Make_c4_d (n : Nat) : SmV := smSeq [2, 3] (points_Make_c3_d n) smRet
noncomputable def points_Make_c5_d (n : Nat) : SmV := smCond (.t 9) (points_Make_c4_d n) smSkip
noncomputable def points_Make_c6_d (n : Nat) : SmV := smSeq [0, 2, 4, 9] (points_Make_c2_d n) (points_Make_c5_d n)
noncomputable def points_Make_c7_d (n : Nat) : SmV := smOps E_points_Make points_Make_o4
noncomputable def points_Make_c8_d (n : Nat) : SmV := smOps E_points_Make points_Make_o5
noncomputable def points_Make_c9_d (n : Nat) : SmV := smCond (.t 14) smSkip (smExit 0)
noncomputable def points_Make_c10_d (n : Nat) : SmV := smOps E_points_Make points_Make_o6
noncomputable def points_Make_c11_d (n : Nat) : SmV := smOps E_points_Make points_Make_o7
noncomputable def points_Make_c12_d (n : Nat) : SmV := smOps E_points_Make points_Make_o8
noncomputable def points_Make_c13_d (n : Nat) : SmV := smSeq [2, 3] (points_Make_c12_d n) smRet
noncomputable def points_Make_c14_d (n : Nat) : SmV := smCond (.t 20) (points_Make_c13_d n) smSkip
noncomputable def points_Make_c15_d (n : Nat) : SmV := smSeq [2, 4, 5, 6, 11, 12, 13, 20] (points_Make_c11_d n) (points_Make_c14_d n)
noncomputable def points_Make_c16_d (n : Nat) : SmV := smOps E_points_Make points_Make_o9
noncomputable def points_Make_c17_d (n : Nat) : SmV := smSeq [2, 4, 5, 6, 11, 12, 13] (points_Make_c15_d n) (points_Make_c16_d n)
noncomputable def points_Make_c18_d (n : Nat) : SmV := smSeq [2, 4, 5, 6, 11, 12, 13] (points_Make_c10_d n) (points_Make_c17_d n)
noncomputable def points_Make_c19_d (n : Nat) : SmV := smBlock 1 (points_Make_c18_d n)
noncomputable def points_Make_c20_d (n : Nat) : SmV := smOps E_points_Make points_Make_o10
noncomputable def points_Make_c21_d (n : Nat) : SmV := smSeq [2, 4, 11, 12, 13] (points_Make_c19_d n) (points_Make_c20_d n)
noncomputable def points_Make_c22_d (n : Nat) : SmV := smSeq [2, 4, 11, 12, 13] (points_Make_c9_d n) (points_Make_c21_d n)
noncomputable def points_Make_c23_d (n : Nat) : SmV := smSeq [2, 4, 11, 12, 13, 14] (points_Make_c8_d n) (points_Make_c22_d n)
noncomputable def points_Make_c24_d (n : Nat) : SmV := smLoop n [2, 4, 11, 12, 13] (points_Make_c23_d n)
noncomputable def points_Make_c25_d (n : Nat) : SmV := smBlock 0 (points_Make_c24_d n)
noncomputable def points_Make_c26_d (n : Nat) : SmV := smSeq [2, 4, 11, 12, 13] (points_Make_c7_d n) (points_Make_c25_d n)
noncomputable def points_Make_c27_d (n : Nat) : SmV := smOps E_points_Make points_Make_o11
noncomputable def points_Make_c28_d (n : Nat) : SmV := smSeq [2, 3] (points_Make_c27_d n) smRet
noncomputable def points_Make_c29_d (n : Nat) : SmV := smSeq [2, 4] (points_Make_c26_d n) (points_Make_c28_d n)
noncomputable def points_Make_c30_d (n : Nat) : SmV := smSeq [0, 2, 4] (points_Make_c6_d n) (points_Make_c29_d n)
noncomputable def points_Make_c31_d (n : Nat) : SmV := smSeq [0, 2, 4] (points_Make_c1_d n) (points_Make_c30_d n)
noncomputable def points_Make_c32_d (n : Nat) : SmV := smSeq [0, 2] (points_Make_c0_d n) (points_Make_c31_d n)
noncomputable def points_Make_k0 (n : Nat) : AExit → Env → Heap → OptV := fun x e h => match x with | .normal => hold ((points_Make_c28_d n) A_points_Make.fin (e.keep [2, 4]) h) | .exit id => A_points_Make.fin (.exit id) e h | .ret => A_points_Make.fin .ret e h
noncomputable def points_Make_k1 (n : Nat) : AExit → Env → Heap → OptV := fun x e h => match x with | .exit i => bif Nat.beq i 0 then (points_Make_k0 n) .normal e h else (points_Make_k0 n) (.exit i) e h | .normal => (points_Make_k0 n) .normal e h | .ret => (points_Make_k0 n) .ret e h
noncomputable def points_Make_l0 (n m : Nat) (x2 x4 x11 x12 x13 : Val) (h : Heap) : OptV := around (points_Make_c23_d n) [2, 4, 11, 12, 13] (points_Make_k1 n) m [(2, x2), (4, x4), (11, x11), (12, x12), (13, x13)] h
noncomputable def R_points_Make (n : Nat) (args : List Val) (h : Heap) : OptV := (points_Make_c32_d n) A_points_Make.fin (params 0 args) h
theorem R_points_Make_eq (n : Nat) (a0 : Val) (h : Heap) : R_points_Make n [a0] h = bnd (alen a0) fun v1 => bnd (abin .gtr v1 (.c (.i .i64 128))) fun v2 => cnd v2 (bnd (aloadN (((h ++ [some (Row.mk (List.replicate 256 (.i .u8 0)) true)]) ++ [some (Row.mk (List.replicate 256 (.i .u8 0)) true)])) 256 ((.c (.p ((h ++ [some (Row.mk (List.replicate 256 (.i .u8 0)) true)])).length 0)))) fun v3 => bnd (astoreN (((h ++ [some (Row.mk (List.replicate 256 (.i .u8 0)) true)]) ++ [some (Row.mk (List.replicate 256 (.i .u8 0)) true)])) 256 ((.c (.p h.length 0))) v3) fun h4 => tupN [aloadN h4 256 ((.c (.p h.length 0))), some (.c (.i .i64 2))] h4) (bnd (alen a0) fun v5 => points_Make_l0 n n ((.c (.p h.length 0))) ((.c (.p ((h ++ [some (Row.mk (List.replicate 256 (.i .u8 0)) true)])).length 0))) a0 v5 (.c (.i .i64 0)) (((h ++ [some (Row.mk (List.replicate 256 (.i .u8 0)) true)]) ++ [some (Row.mk (List.replicate 256 (.i .u8 0)) true)]))) := by kernel_rfl
theorem points_Make_l0_eq (n m : Nat) (x2 x4 x11 x12 x13 : Val) (h : Heap) : points_Make_l0 n (m + 1) x2 x4 x11 x12 x13 h = bnd (abin .lss x13 x12) fun v6 => cnd v6 (bnd (aiAddrL 1 x11 x13) fun v7 => bnd (aload1 h v7) fun v8 => bnd (S_points_fine [v8] h) fun p9 => bnd (aun .not p9.1) fun v10 => cnd v10 (bnd (afill (List.replicate 256 (.i .u8 0)) []) fun c11 => bnd (astoreN p9.2 256 x2 ((.a c11))) fun h12 => tupN [aloadN h12 256 x2, some (.c (.i .i64 1))] h12) (bnd (aloadN p9.2 256 x4) fun v13 => bnd (abin .mul (.c (.i .i64 2)) x13) fun v14 => bnd (S_num_With [v13, v14, .c (.i .i64 2), v8] p9.2) fun p15 => bnd (astoreN p15.2 256 x4 p15.1) fun h16 => bnd (abin .add x13 (.c (.i .i64 1))) fun v17 => points_Make_l0 n m x2 x4 x11 x12 v17 h16)) (bnd (aloadN h 256 x4) fun v18 => bnd (astoreN h 256 x2 v18) fun h19 => tupN [aloadN h19 256 x2, some (.c (.i .i64 0))] h19) := by kernel_rfl
theorem K_points_Make : FnK Try.prog 88 A_points_Make E_points_Make R_points_Make := .mk' (sound1 S_points_fine_ok (sound1 S_num_With_ok sound0)) Try.func88 (by kernel_rfl) (by intro n args h; kernel_rfl)
noncomputable def S_points_Make : Fun := tidy (Lim A_points_Make E_points_Make)
theorem S_points_Make_ok : SOk Try.prog 88 S_points_Make := K_points_Make.sok
theorem S_points_Make_flat {n : Nat} {args : List Val} {h h2 : Heap} {v : Val} (he : R_points_Make n args (ro h) = some (v, h2)) (hf : v.flat = true) : S_points_Make args h = some (v, h) := K_points_Make.flat he hf
def points_List_o0 : List AOper := [{ dst := some 1, op := .box (.t 0) }, { dst := some 2, op := .nilrow 1 }]
def points_List_c0 : ACode := .ops points_List_o0
def points_List_o1 : List AOper := [{ dst := some 3, op := .nilrow 1 }]
def points_List_c1 : ACode := .ops points_List_o1
def points_List_o2 : List AOper := [{ dst := some 6, op := .mv (.v (.c (.i .i64 0))) }]
def points_List_c2 : ACode := .ops points_List_o2
def points_List_o3 : List AOper := [{ dst := some 7, op := .bin .lss (.t 6) (.v (.c (.i .i64 128))) }]
def points_List_c3 : ACode := .ops points_List_o3
def points_List_c4 : ACode := .cond (.t 7) .skip (.exit 0)
def points_List_o4 : List AOper := [{ dst := some 8, op := .mv (.t 6) }, { dst := some 4, op := .mv (.t 8) }]
def points_List_c5 : ACode := .ops points_List_o4
def points_List_o5 : List AOper := [{ dst := some 9, op := .loadN 256 (.t 1) }, { dst := some 10, op := .mv (.t 4) }, { dst := some 11, op := .call 87 [(.t 9), (.t 10)] }, { dst := some 5, op := .mv (.t 11) }]
def points_List_c6 : ACode := .ops points_List_o5
def points_List_o6 : List AOper := [{ dst := some 12, op := .mv (.t 5) }, { dst := some 13, op := .bin .neq (.t 12) (.v (.c (.i .i64 0))) }]
def points_List_c7 : ACode := .ops points_List_o6
def points_List_o7 : List AOper := [{ dst := some 14, op := .mv (.t 3) }, { dst := some 15, op := .mv (.t 5) }, { dst := some 16, op := .buildSl 1 1 ([.i .i64 0]) [(0, 1, (.t 15))] }, { dst := some 17, op := .app 1 (.t 14) (.t 16) }, { dst := some 3, op := .mv (.t 17) }]
def points_List_c8 : ACode := .ops points_List_o7
def points_List_c9 : ACode := .cond (.t 13) points_List_c8 .skip
def points_List_c10 : ACode := .seq [1, 3, 5, 6, 13] points_List_c7 points_List_c9
def points_List_c11 : ACode := .seq [1, 3, 5, 6] points_List_c6 points_List_c10
def points_List_c12 : ACode := .seq [1, 3, 4, 6] points_List_c5 points_List_c11
def points_List_c13 : ACode := .block 1 points_List_c12
def points_List_o8 : List AOper := [{ dst := some 18, op := .bin .add (.t 6) (.v (.c (.i .i64 1))) }, { dst := some 6, op := .mv (.t 18) }]
def points_List_c14 : ACode := .ops points_List_o8
def points_List_c15 : ACode := .seq [1, 3, 6] points_List_c13 points_List_c14
def points_List_c16 : ACode := .seq [1, 3, 6] points_List_c4 points_List_c15
def points_List_c17 : ACode := .seq [1, 3, 6, 7] points_List_c3 points_List_c16
def points_List_c18 : ACode := .loop [1, 3, 6] points_List_c17
def points_List_c19 : ACode := .block 0 points_List_c18
def points_List_c20 : ACode := .seq [1, 3, 6] points_List_c2 points_List_c19
def points_List_o9 : List AOper := [{ dst := some 19, op := .mv (.t 3) }, { dst := some 2, op := .mv (.t 19) }]
def points_List_c21 : ACode := .ops points_List_o9
def points_List_c22 : ACode := .seq [2] points_List_c21 .ret
def points_List_c23 : ACode := .seq [3] points_List_c20 points_List_c22
def points_List_c24 : ACode := .seq [1, 3] points_List_c1 points_List_c23
def points_List_c25 : ACode := .seq [1] points_List_c0 points_List_c24
def A_points_List : AFn := ⟨points_List_c25, [.tmp 2]⟩
noncomputable def E_points_List : Sums := disp 87 S_points_Get disp0
noncomputable def points_List_c0_d (n : Nat) : SmV := smOps E_points_List points_List_o0
noncomputable def points_List_c1_d (n : Nat) : SmV := smOps E_points_List points_List_o1
noncomputable def points_List_c2_d (n : Nat) : SmV := smOps E_points_List points_List_o2
noncomputable def points_List_c3_d (n : Nat) : SmV := smOps E_points_List points_List_o3
noncomputable def points_List_c4_d (n : Nat) : SmV := smCond (.t 7) smSkip (smExit 0)
noncomputable def points_List_c5_d (n : Nat) : SmV := smOps E_points_List points_List_o4
noncomputable def points_List_c6_d (n : Nat) : SmV := smOps E_points_List points_List_o5
noncomputable def points_List_c7_d (n : Nat) : SmV := smOps E_points_List points_List_o6
noncomputable def points_List_c8_d (n : Nat) : SmV := smOps E_points_List points_List_o7
noncomputable def points_List_c9_d (n : Nat) : SmV := smCond (.t 13) (points_List_c8_d n) smSkip
noncomputable def points_List_c10_d (n : Nat) : SmV := smSeq [1, 3, 5, 6, 13] (points_List_c7_d n) (points_List_c9_d n)
noncomputable def points_List_c11_d (n : Nat) : SmV := smSeq [1, 3, 5, 6] (points_List_c6_d n) (points_List_c10_d n)
noncomputable def points_List_c12_d (n : Nat) : SmV := smSeq [1, 3, 4, 6] (points_List_c5_d n) (points_List_c11_d n)
noncomputable def points_List_c13_d (n : Nat) : SmV := smBlock 1 (points_List_c12_d n)
noncomputable def points_List_c14_d (n : Nat) : SmV := smOps E_points_List points_List_o8
noncomputable def points_List_c15_d (n : Nat) : SmV := smSeq [1, 3, 6] (points_List_c13_d n) (points_List_c14_d n)
noncomputable def points_List_c16_d (n : Nat) : SmV := smSeq [1, 3, 6] (points_List_c4_d n) (points_List_c15_d n)
noncomputable def points_List_c17_d (n : Nat) : SmV := smSeq [1, 3, 6, 7] (points_List_c3_d n) (points_List_c16_d n)
noncomputable def points_List_c18_d (n : Nat) : SmV := smLoop n [1, 3, 6] (points_List_c17_d n)
noncomputable def points_List_c19_d (n : Nat) : SmV := smBlock 0 (points_List_c18_d n)
noncomputable def points_List_c20_d (n : Nat) : SmV := smSeq [1, 3, 6] (points_List_c2_d n) (points_List_c19_d n)
noncomputable def points_List_c21_d (n : Nat) : SmV := smOps E_points_List points_List_o9
noncomputable def points_List_c22_d (n : Nat) : SmV := smSeq [2] (points_List_c21_d n) smRet
noncomputable def points_List_c23_d (n : Nat) : SmV := smSeq [3] (points_List_c20_d n) (points_List_c22_d n)
noncomputable def points_List_c24_d (n : Nat) : SmV := smSeq [1, 3] (points_List_c1_d n) (points_List_c23_d n)
noncomputable def points_List_c25_d (n : Nat) : SmV := smSeq [1] (points_List_c0_d n) (points_List_c24_d n)
noncomputable def points_List_k0 (n : Nat) : AExit → Env → Heap → OptV := fun x e h => match x with | .normal => hold ((points_List_c22_d n) A_points_List.fin (e.keep [3]) h) | .exit id => A_points_List.fin (.exit id) e h | .ret => A_points_List.fin .ret e h
noncomputable def points_List_k1 (n : Nat) : AExit → Env → Heap → OptV := fun x e h => match x with | .exit i => bif Nat.beq i 0 then (points_List_k0 n) .normal e h else (points_List_k0 n) (.exit i) e h | .normal => (points_List_k0 n) .normal e h | .ret => (points_List_k0 n) .ret e h
noncomputable def points_List_l0 (n m : Nat) (x1 x3 x6 : Val) (h : Heap) : OptV := around (points_List_c17_d n) [1, 3, 6] (points_List_k1 n) m [(1, x1), (3, x3), (6, x6)] h
noncomputable def R_points_List (n : Nat) (args : List Val) (h : Heap) : OptV := (points_List_c25_d n) A_points_List.fin (params 0 args) h
noncomputable def points_List_k2 (n m : Nat) : AExit → Env → Heap → OptV := fun x e h => match x with | .normal => around (points_List_c17_d n) [1, 3, 6] (points_List_k1 n) m (e.keep [1, 3, 6]) h | .exit id => (points_List_k1 n) (.exit id) e h | .ret => (points_List_k1 n) .ret e h
noncomputable def points_List_j0 (n m : Nat) (x1 x3 x6 : Val) (h : Heap) : OptV := hold ((points_List_c14_d n) (points_List_k2 n m) [(1, x1), (3, x3), (6, x6)] h)
theorem R_points_List_eq (n : Nat) (a0 : Val) (h : Heap) : R_points_List n [a0] h = bnd (cells? a0) fun c1 => points_List_l0 n n ((.c (.p h.length 0))) ((.c (.sl (((h ++ [some (Row.mk (c1) true)]) ++ [some (Row.mk ([]) true)])).length 0 0 1))) (.c (.i .i64 0)) ((((h ++ [some (Row.mk (c1) true)]) ++ [some (Row.mk ([]) true)]) ++ [some (Row.mk ([]) true)])) := by kernel_rfl
theorem points_List_l0_eq (n m : Nat) (x1 x3 x6 : Val) (h : Heap) : points_List_l0 n (m + 1) x1 x3 x6 h = bnd (abin .lss x6 (.c (.i .i64 128))) fun v2 => cnd v2 (bnd (aloadN h 256 x1) fun v3 => bnd (S_points_Get [v3, x6] h) fun p4 => bnd (abin .neq p4.1 (.c (.i .i64 0))) fun v5 => cnd v5 (bnd (afill ([.i .i64 0]) [(0, 1, p4.1)]) fun c6 => bnd (aapp ((p4.2 ++ [some (Row.mk (c6) true)])) 1 x3 ((.c (.sl p4.2.length 0 1 1)))) fun p7 => points_List_j0 n m x1 p7.1 x6 p7.2) (points_List_j0 n m x1 x3 x6 p4.2)) (some (x3, h)) := by kernel_rfl
theorem points_List_j0_eq (n m : Nat) (x1 x3 x6 : Val) (h : Heap) : points_List_j0 n m x1 x3 x6 h = bnd (abin .add x6 (.c (.i .i64 1))) fun v8 => points_List_l0 n m x1 x3 v8 h := by kernel_rfl
theorem K_points_List : FnK Try.prog 89 A_points_List E_points_List R_points_List := .mk' (sound1 S_points_Get_ok sound0) Try.func89 (by kernel_rfl) (by intro n args h; kernel_rfl)
noncomputable def S_points_List : Fun := tidy (Lim A_points_List E_points_List)
theorem S_points_List_ok : SOk Try.prog 89 S_points_List := K_points_List.sok
theorem S_points_List_low {n : Nat} {args : List Val} {h h2 : Heap} {v : Val} (he : R_points_List n args (ro h) = some (v, h2)) (hf : v.low h.length = true) : S_points_List args h = some (v, h) := K_points_List.low he hf
theorem S_points_List_out {n : Nat} {args : List Val} {h h2 : Heap} {v : Val} {sz k : Nat} {cs : List Cell} (he : R_points_List n args (ro h) = some (v, h2)) (ho : Out h.length h2 v sz k cs) (hf : flats cs = true) : S_points_List args h = some (.c (.sl h.length 0 k sz), h ++ [some ⟨cs, true⟩]) := K_points_List.out he ho hf
def points_Last_o0 : List AOper := [{ dst := some 1, op := .box (.t 0) }, { dst := some 2, op := .mv (.v (.c (.i .i64 0))) }]
def points_Last_c0 : ACode := .ops points_Last_o0
def points_Last_o1 : List AOper := [{ dst := some 3, op := .mv (.v (.c (.i .i64 0))) }]
def points_Last_c1 : ACode := .ops points_Last_o1
def points_Last_o2 : List AOper := [{ dst := some 5, op := .mv (.v (.c (.i .i64 0))) }]
def points_Last_c2 : ACode := .ops points_Last_o2
def points_Last_o3 : List AOper := [{ dst := some 6, op := .bin .lss (.t 5) (.v (.c (.i .i64 128))) }]
def points_Last_c3 : ACode := .ops points_Last_o3
def points_Last_c4 : ACode := .cond (.t 6) .skip (.exit 0)
def points_Last_o4 : List AOper := [{ dst := some 7, op := .mv (.t 5) }, { dst := some 4, op := .mv (.t 7) }]
def points_Last_c5 : ACode := .ops points_Last_o4
def points_Last_o5 : List AOper := [{ dst := some 8, op := .loadN 256 (.t 1) }, { dst := some 9, op := .mv (.t 4) }, { dst := some 10, op := .call 87 [(.t 8), (.t 9)] }, { dst := some 11, op := .bin .neq (.t 10) (.v (.c (.i .i64 0))) }]
def points_Last_c6 : ACode := .ops points_Last_o5
def points_Last_o6 : List AOper := [{ dst := some 12, op := .mv (.t 4) }, { dst := some 13, op := .bin .add (.t 12) (.v (.c (.i .i64 1))) }, { dst := some 3, op := .mv (.t 13) }]
def points_Last_c7 : ACode := .ops points_Last_o6
def points_Last_c8 : ACode := .cond (.t 11) points_Last_c7 .skip
def points_Last_c9 : ACode := .seq [1, 3, 4, 5, 11] points_Last_c6 points_Last_c8
def points_Last_c10 : ACode := .seq [1, 3, 4, 5] points_Last_c5 points_Last_c9
def points_Last_c11 : ACode := .block 1 points_Last_c10
def points_Last_o7 : List AOper := [{ dst := some 14, op := .bin .add (.t 5) (.v (.c (.i .i64 1))) }, { dst := some 5, op := .mv (.t 14) }]
def points_Last_c12 : ACode := .ops points_Last_o7
def points_Last_c13 : ACode := .seq [1, 3, 5] points_Last_c11 points_Last_c12
def points_Last_c14 : ACode := .seq [1, 3, 5] points_Last_c4 points_Last_c13
def points_Last_c15 : ACode := .seq [1, 3, 5, 6] points_Last_c3 points_Last_c14
def points_Last_c16 : ACode := .loop [1, 3, 5] points_Last_c15
def points_Last_c17 : ACode := .block 0 points_Last_c16
def points_Last_c18 : ACode := .seq [1, 3, 5] points_Last_c2 points_Last_c17
def points_Last_o8 : List AOper := [{ dst := some 15, op := .mv (.t 3) }, { dst := some 2, op := .mv (.t 15) }]
def points_Last_c19 : ACode := .ops points_Last_o8
def points_Last_c20 : ACode := .seq [2] points_Last_c19 .ret
def points_Last_c21 : ACode := .seq [3] points_Last_c18 points_Last_c20
def points_Last_c22 : ACode := .seq [1, 3] points_Last_c1 points_Last_c21
def points_Last_c23 : ACode := .seq [1] points_Last_c0 points_Last_c22
def A_points_Last : AFn := ⟨points_Last_c23, [.tmp 2]⟩
noncomputable def E_points_Last : Sums := disp 87 S_points_Get disp0
noncomputable def points_Last_c0_d (n : Nat) : SmV := smOps E_points_Last points_Last_o0
noncomputable def points_Last_c1_d (n : Nat) : SmV := smOps E_points_Last points_Last_o1
noncomputable def points_Last_c2_d (n : Nat) : SmV := smOps E_points_Last points_Last_o2
noncomputable def points_Last_c3_d (n : Nat) : SmV := smOps E_points_Last points_Last_o3
noncomputable def points_Last_c4_d (n : Nat) : SmV := smCond (.t 6) smSkip (smExit 0)
noncomputable def points_Last_c5_d (n : Nat) : SmV := smOps E_points_Last points_Last_o4
noncomputable def points_Last_c6_d (n : Nat) : SmV := smOps E_points_Last points_Last_o5
noncomputable def points_Last_c7_d (n : Nat) : SmV := smOps E_points_Last points_Last_o6
noncomputable def points_Last_c8_d (n : Nat) : SmV := smCond (.t 11) (points_Last_c7_d n) smSkip
noncomputable def points_Last_c9_d (n : Nat) : SmV := smSeq [1, 3, 4, 5, 11] (points_Last_c6_d n) (points_Last_c8_d n)
noncomputable def points_Last_c10_d (n : Nat) : SmV := smSeq [1, 3, 4, 5] (points_Last_c5_d n) (points_Last_c9_d n)
noncomputable def points_Last_c11_d (n : Nat) : SmV := smBlock 1 (points_Last_c10_d n)
noncomputable def points_Last_c12_d (n : Nat) : SmV := smOps E_points_Last points_Last_o7
noncomputable def points_Last_c13_d (n : Nat) : SmV := smSeq [1, 3, 5] (points_Last_c11_d n) (points_Last_c12_d n)
noncomputable def points_Last_c14_d (n : Nat) : SmV := smSeq [1, 3, 5] (points_Last_c4_d n) (points_Last_c13_d n)
noncomputable def points_Last_c15_d (n : Nat) : SmV := smSeq [1, 3, 5, 6] (points_Last_c3_d n) (points_Last_c14_d n)
noncomputable def points_Last_c16_d (n : Nat) : SmV := smLoop n [1, 3, 5] (points_Last_c15_d n)
noncomputable def points_Last_c17_d (n : Nat) : SmV := smBlock 0 (points_Last_c16_d n)
noncomputable def points_Last_c18_d (n : Nat) : SmV := smSeq [1, 3, 5] (points_Last_c2_d n) (points_Last_c17_d n)
noncomputable def points_Last_c19_d (n : Nat) : SmV := smOps E_points_Last points_Last_o8
noncomputable def points_Last_c20_d (n : Nat) : SmV := smSeq [2] (points_Last_c19_d n) smRet
noncomputable def points_Last_c21_d (n : Nat) : SmV := smSeq [3] (points_Last_c18_d n) (points_Last_c20_d n)
noncomputable def points_Last_c22_d (n : Nat) : SmV := smSeq [1, 3] (points_Last_c1_d n) (points_Last_c21_d n)
noncomputable def points_Last_c23_d (n : Nat) : SmV := smSeq [1] (points_Last_c0_d n) (points_Last_c22_d n)
noncomputable def points_Last_k0 (n : Nat) : AExit → Env → Heap → OptV := fun x e h => match x with | .normal => hold ((points_Last_c20_d n) A_points_Last.fin (e.keep [3]) h) | .exit id => A_points_Last.fin (.exit id) e h | .ret => A_points_Last.fin .ret e h
noncomputable def points_Last_k1 (n : Nat) : AExit → Env → Heap → OptV := fun x e h => match x with | .exit i => bif Nat.beq i 0 then (points_Last_k0 n) .normal e h else (points_Last_k0 n) (.exit i) e h | .normal => (points_Last_k0 n) .normal e h | .ret => (points_Last_k0 n) .ret e h
noncomputable def points_Last_l0 (n m : Nat) (x1 x3 x5 : Val) (h : Heap) : OptV := around (points_Last_c15_d n) [1, 3, 5] (points_Last_k1 n) m [(1, x1), (3, x3), (5, x5)] h
noncomputable def R_points_Last (n : Nat) (args : List Val) (h : Heap) : OptV := (points_Last_c23_d n) A_points_Last.fin (params 0 args) h
noncomputable def points_Last_k2 (n m : Nat) : AExit → Env → Heap → OptV := fun x e h => match x with | .normal => around (points_Last_c15_d n) [1, 3, 5] (points_Last_k1 n) m (e.keep [1, 3, 5]) h | .exit id => (points_Last_k1 n) (.exit id) e h | .ret => (points_Last_k1 n) .ret e h
noncomputable def points_Last_j0 (n m : Nat) (x1 x3 x5 : Val) (h : Heap) : OptV := hold ((points_Last_c12_d n) (points_Last_k2 n m) [(1, x1), (3, x3), (5, x5)] h)
theorem R_points_Last_eq (n : Nat) (a0 : Val) (h : Heap) : R_points_Last n [a0] h = bnd (cells? a0) fun c1 => points_Last_l0 n n ((.c (.p h.length 0))) (.c (.i .i64 0)) (.c (.i .i64 0)) ((h ++ [some (Row.mk (c1) true)])) := by kernel_rfl
theorem points_Last_l0_eq (n m : Nat) (x1 x3 x5 : Val) (h : Heap) : points_Last_l0 n (m + 1) x1 x3 x5 h = bnd (abin .lss x5 (.c (.i .i64 128))) fun v2 => cnd v2 (bnd (aloadN h 256 x1) fun v3 => bnd (S_points_Get [v3, x5] h) fun p4 => bnd (abin .neq p4.1 (.c (.i .i64 0))) fun v5 => cnd v5 (bnd (abin .add x5 (.c (.i .i64 1))) fun v6 => points_Last_j0 n m x1 v6 x5 p4.2) (points_Last_j0 n m x1 x3 x5 p4.2)) (some (x3, h)) := by kernel_rfl
theorem points_Last_j0_eq (n m : Nat) (x1 x3 x5 : Val) (h : Heap) : points_Last_j0 n m x1 x3 x5 h = bnd (abin .add x5 (.c (.i .i64 1))) fun v7 => points_Last_l0 n m x1 x3 v7 h := by kernel_rfl
theorem K_points_Last : FnK Try.prog 90 A_points_Last E_points_Last R_points_Last := .mk' (sound1 S_points_Get_ok sound0) Try.func90 (by kernel_rfl) (by intro n args h; kernel_rfl)
noncomputable def S_points_Last : Fun := tidy (Lim A_points_Last E_points_Last)
theorem S_points_Last_ok : SOk Try.prog 90 S_points_Last := K_points_Last.sok
theorem S_points_Last_flat {n : Nat} {args : List Val} {h h2 : Heap} {v : Val} (he : R_points_Last n args (ro h) = some (v, h2)) (hf : v.flat = true) : S_points_Last args h = some (v, h) := K_points_Last.flat he hf
def points_Patch_o0 : List AOper := [{ dst := some 4, op := .alloc ([.i .i64 0, .ns]) }, { dst := some 5, op := .mv (.v (.c (.i .i64 0))) }]
def points_Patch_c0 : ACode := .ops points_Patch_o0
def points_Patch_o1 : List AOper := [{ dst := some 7, op := .mv (.t 0) }, { dst := some 8, op := .call 175 [(.t 7)] }, { dst := some 9, op := .un .not (.t 8) }, { dst := some 6, op := .mv (.t 9) }]
def points_Patch_c1 : ACode := .ops points_Patch_o1
def points_Patch_o2 : List AOper := [{ dst := some 10, op := .build ([.i .i64 0, .ns]) [] }, { dst := none, op := .storeN 2 (.t 4) (.t 10) }, { dst := some 5, op := .mv (.v (.c (.i .i64 2))) }]
def points_Patch_c2 : ACode := .ops points_Patch_o2
def points_Patch_c3 : ACode := .seq [4, 5] points_Patch_c2 .ret
def points_Patch_o3 : List AOper := [{ dst := some 12, op := .mv (.t 1) }, { dst := some 13, op := .call 176 [(.t 12)] }, { dst := some 14, op := .un .not (.t 13) }, { dst := some 11, op := .mv (.t 14) }]
def points_Patch_c4 : ACode := .ops points_Patch_o3
def points_Patch_o4 : List AOper := [{ dst := some 15, op := .build ([.i .i64 0, .ns]) [] }, { dst := none, op := .storeN 2 (.t 4) (.t 15) }, { dst := some 5, op := .mv (.v (.c (.i .i64 1))) }]
def points_Patch_c5 : ACode := .ops points_Patch_o4
def points_Patch_c6 : ACode := .seq [4, 5] points_Patch_c5 .ret
def points_Patch_c7 : ACode := .cond (.t 11) points_Patch_c6 .skip
def points_Patch_c8 : ACode := .seq [0, 1, 4, 11] points_Patch_c4 points_Patch_c7
def points_Patch_c9 : ACode := .cond (.t 6) points_Patch_c3 points_Patch_c8
def points_Patch_c10 : ACode := .seq [0, 1, 4, 6] points_Patch_c1 points_Patch_c9
def points_Patch_c11 : ACode := .block 0 points_Patch_c10
def points_Patch_o5 : List AOper := [{ dst := some 16, op := .mv (.t 0) }, { dst := some 17, op := .bin .mul (.v (.c (.i .i64 2))) (.t 16) }, { dst := some 18, op := .mv (.t 1) }, { dst := some 19, op := .conv .u8 (.t 18) }, { dst := some 20, op := .mv (.t 1) }, { dst := some 21, op := .bin .shr (.t 20) (.v (.c (.i .u64 8))) }, { dst := some 22, op := .conv .u8 (.t 21) }, { dst := some 23, op := .buildSl 1 2 ([.i .u8 0, .i .u8 0]) [(0, 1, (.t 19)), (1, 1, (.t 22))] }, { dst := some 24, op := .build ([.i .i64 0, .ns]) [(0, 1, (.t 17)), (1, 1, (.t 23))] }, { dst := none, op := .storeN 2 (.t 4) (.t 24) }, { dst := some 5, op := .mv (.v (.c (.i .i64 0))) }]
def points_Patch_c12 : ACode := .ops points_Patch_o5
def points_Patch_c13 : ACode := .seq [4, 5] points_Patch_c12 .ret
def points_Patch_c14 : ACode := .seq [0, 1, 4] points_Patch_c11 points_Patch_c13
def points_Patch_c15 : ACode := .seq [0, 1, 4] points_Patch_c0 points_Patch_c14
def A_points_Patch : AFn := ⟨points_Patch_c15, [.cellN 4 2, .tmp 5]⟩
noncomputable def E_points_Patch : Sums := disp 175 S_points_there (disp 176 S_points_fine disp0)
noncomputable def points_Patch_c0_d (n : Nat) : SmV := smOps E_points_Patch points_Patch_o0
noncomputable def points_Patch_c1_d (n : Nat) : SmV := smOps E_points_Patch points_Patch_o1
noncomputable def points_Patch_c2_d (n : Nat) : SmV := smOps E_points_Patch points_Patch_o2
noncomputable def points_Patch_c3_d (n : Nat) : SmV := smSeq [4, 5] (points_Patch_c2_d n) smRet
noncomputable def points_Patch_c4_d (n : Nat) : SmV := smOps E_points_Patch points_Patch_o3
noncomputable def points_Patch_c5_d (n : Nat) : SmV := smOps E_points_Patch points_Patch_o4
noncomputable def points_Patch_c6_d (n : Nat) : SmV := smSeq [4, 5] (points_Patch_c5_d n) smRet
noncomputable def points_Patch_c7_d (n : Nat) : SmV := smCond (.t 11) (points_Patch_c6_d n) smSkip
noncomputable def points_Patch_c8_d (n : Nat) : SmV := smSeq [0, 1, 4, 11] (points_Patch_c4_d n) (points_Patch_c7_d n)
noncomputable def points_Patch_c9_d (n : Nat) : SmV := smCond (.t 6) (points_Patch_c3_d n) (points_Patch_c8_d n)
noncomputable def points_Patch_c10_d (n : Nat) : SmV := smSeq [0, 1, 4, 6] (points_Patch_c1_d n) (points_Patch_c9_d n)
noncomputable def points_Patch_c11_d (n : Nat) : SmV := smBlock 0 (points_Patch_c10_d n)
noncomputable def points_Patch_c12_d (n : Nat) : SmV := smOps E_points_Patch points_Patch_o5
noncomputable def points_Patch_c13_d (n : Nat) : SmV := smSeq [4, 5] (points_Patch_c12_d n) smRet
noncomputable def points_Patch_c14_d (n : Nat) : SmV := smSeq [0, 1, 4] (points_Patch_c11_d n) (points_Patch_c13_d n)
noncomputable def points_Patch_c15_d (n : Nat) : SmV := smSeq [0, 1, 4] (points_Patch_c0_d n) (points_Patch_c14_d n)
noncomputable def R_points_Patch (n : Nat) (args : List Val) (h : Heap) : OptV := (points_Patch_c15_d n) A_points_Patch.fin (params 0 args) h
theorem R_points_Patch_eq (n : Nat) (a0 a1 : Val) (h : Heap) : R_points_Patch n [a0, a1] h = bnd (S_points_there [a0] ((h ++ [some (Row.mk ([.i .i64 0, .ns]) true)]))) fun p1 => bnd (aun .not p1.1) fun v2 => cnd v2 (bnd (afill ([.i .i64 0, .ns]) []) fun c3 => bnd (astoreN p1.2 2 ((.c (.p h.length 0))) ((.a c3))) fun h4 => tupN [aloadN h4 2 ((.c (.p h.length 0))), some (.c (.i .i64 2))] h4) (bnd (S_points_fine [a1] p1.2) fun p5 => bnd (aun .not p5.1) fun v6 => cnd v6 (bnd (afill ([.i .i64 0, .ns]) []) fun c7 => bnd (astoreN p5.2 2 ((.c (.p h.length 0))) ((.a c7))) fun h8 => tupN [aloadN h8 2 ((.c (.p h.length 0))), some (.c (.i .i64 1))] h8) (bnd (abin .mul (.c (.i .i64 2)) a0) fun v9 => bnd (aconv .u8 a1) fun v10 => bnd (abin .shr a1 (.c (.i .u64 8))) fun v11 => bnd (aconv .u8 v11) fun v12 => bnd (afill ([.i .u8 0, .i .u8 0]) [(0, 1, v10), (1, 1, v12)]) fun c13 => bnd (afill ([.i .i64 0, .ns]) [(0, 1, v9), (1, 1, (.c (.sl p5.2.length 0 2 1)))]) fun c14 => bnd (astoreN ((p5.2 ++ [some (Row.mk (c13) true)])) 2 ((.c (.p h.length 0))) ((.a c14))) fun h15 => tupN [aloadN h15 2 ((.c (.p h.length 0))), some (.c (.i .i64 0))] h15)) := by kernel_rfl
theorem K_points_Patch : FnK Try.prog 104 A_points_Patch E_points_Patch R_points_Patch := .mk' (sound1 S_points_there_ok (sound1 S_points_fine_ok sound0)) Try.func104 (by kernel_rfl) (by intro n args h; kernel_rfl)
noncomputable def S_points_Patch : Fun := tidy (Lim A_points_Patch E_points_Patch)
theorem S_points_Patch_ok : SOk Try.prog 104 S_points_Patch := K_points_Patch.sok
theorem S_points_Patch_flat {n : Nat} {args : List Val} {h h2 : Heap} {v : Val} (he : R_points_Patch n args (ro h) = some (v, h2)) (hf : v.flat = true) : S_points_Patch args h = some (v, h) := K_points_Patch.flat he hf
theorem S_points_Patch_low {n : Nat} {args : List Val} {h h2 : Heap} {v : Val} (he : R_points_Patch n args (ro h) = some (v, h2)) (hf : v.low h.length = true) : S_points_Patch args h = some (v, h) := K_points_Patch.low he hf
theorem S_points_Patch_tidy {n : Nat} {args : List Val} {h h2 : Heap} {v : Val} {v2 : Val} {ids : List Nat} (he : R_points_Patch n args (ro h) = some (v, h2)) (hc : canonV h2 h.length v = some (v2, ids)) : S_points_Patch args h = some (v2, h ++ ids.map (rd h2)) := K_points_Patch.tidy he hc
end Go.Proofs.Ytbbkpmbepljhkaa
