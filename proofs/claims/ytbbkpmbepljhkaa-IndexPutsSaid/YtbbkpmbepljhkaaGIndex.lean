/- Index: the Go functions of this package as the abstract evaluator computes them: printed by a program, checked by Lean. -/
import Derived.Test.YtbbkpmbepljhkaaEscS
import Derived.Test.YtbbkpmbepljhkaaChecked
import Derived.KernelRfl
import Derived.Test.YtbbkpmbepljhkaaGMix
import Derived.Test.YtbbkpmbepljhkaaGNum
namespace Go.Proofs.Ytbbkpmbepljhkaa
open Go Go.Esc
set_option maxRecDepth 100000
set_option linter.all false
def index_depth_o0 : List AOper := [{ dst := some 1, op := .box (.t 0) }, { dst := some 2, op := .mv (.v (.c (.i .i64 0))) }]
def index_depth_c0 : ACode := .ops index_depth_o0
def index_depth_o1 : List AOper := [{ dst := some 3, op := .fAddr (.t 1) 0 }, { dst := some 4, op := .load1 (.t 3) }, { dst := some 5, op := .min (.t 4) (.v (.c (.i .i64 5))) }, { dst := some 6, op := .max (.v (.c (.i .i64 0))) (.t 5) }, { dst := some 2, op := .mv (.t 6) }]
def index_depth_c1 : ACode := .ops index_depth_o1
def index_depth_c2 : ACode := .seq [2] index_depth_c1 .ret
def index_depth_c3 : ACode := .seq [1] index_depth_c0 index_depth_c2
def A_index_depth : AFn := ⟨index_depth_c3, [.tmp 2]⟩
noncomputable def E_index_depth : Sums := disp0
noncomputable def index_depth_c0_d (n : Nat) : SmV := smOps E_index_depth index_depth_o0
noncomputable def index_depth_c1_d (n : Nat) : SmV := smOps E_index_depth index_depth_o1
noncomputable def index_depth_c2_d (n : Nat) : SmV := smSeq [2] (index_depth_c1_d n) smRet
noncomputable def index_depth_c3_d (n : Nat) : SmV := smSeq [1] (index_depth_c0_d n) (index_depth_c2_d n)
noncomputable def R_index_depth (n : Nat) (args : List Val) (h : Heap) : OptV := (index_depth_c3_d n) A_index_depth.fin (params 0 args) h
theorem R_index_depth_eq (n : Nat) (a0 : Val) (h : Heap) : R_index_depth n [a0] h = bnd (cells? a0) fun c1 => bnd (afAddr ((.c (.p h.length 0))) 0) fun v2 => bnd (aload1 ((h ++ [some (Row.mk (c1) true)])) v2) fun v3 => bnd (amin v3 (.c (.i .i64 5))) fun v4 => bnd (amax (.c (.i .i64 0)) v4) fun v5 => some (v5, (h ++ [some (Row.mk (c1) true)])) := by kernel_rfl
theorem K_index_depth : FnK Try.prog 180 A_index_depth E_index_depth R_index_depth := .mk' (sound0) Try.func180 (by kernel_rfl) (by intro n args h; kernel_rfl)
noncomputable def S_index_depth : Fun := tidy (Lim A_index_depth E_index_depth)
theorem S_index_depth_ok : SOk Try.prog 180 S_index_depth := K_index_depth.sok
theorem S_index_depth_flat {n : Nat} {args : List Val} {h h2 : Heap} {v : Val} (he : R_index_depth n args (ro h) = some (v, h2)) (hf : v.flat = true) : S_index_depth args h = some (v, h) := K_index_depth.flat he hf
def index_many_o0 : List AOper := [{ dst := some 1, op := .box (.t 0) }, { dst := some 2, op := .mv (.v (.c (.i .i64 0))) }]
def index_many_c0 : ACode := .ops index_many_o0
def index_many_o1 : List AOper := [{ dst := some 3, op := .loadN 33 (.t 1) }, { dst := some 4, op := .call 180 [(.t 3)] }, { dst := some 5, op := .conv .u64 (.t 4) }, { dst := some 6, op := .bin .shl (.v (.c (.i .i64 1))) (.t 5) }, { dst := some 2, op := .mv (.t 6) }]
def index_many_c1 : ACode := .ops index_many_o1
def index_many_c2 : ACode := .seq [2] index_many_c1 .ret
def index_many_c3 : ACode := .seq [1] index_many_c0 index_many_c2
def A_index_many : AFn := ⟨index_many_c3, [.tmp 2]⟩
noncomputable def E_index_many : Sums := disp 180 S_index_depth disp0
noncomputable def index_many_c0_d (n : Nat) : SmV := smOps E_index_many index_many_o0
noncomputable def index_many_c1_d (n : Nat) : SmV := smOps E_index_many index_many_o1
noncomputable def index_many_c2_d (n : Nat) : SmV := smSeq [2] (index_many_c1_d n) smRet
noncomputable def index_many_c3_d (n : Nat) : SmV := smSeq [1] (index_many_c0_d n) (index_many_c2_d n)
noncomputable def R_index_many (n : Nat) (args : List Val) (h : Heap) : OptV := (index_many_c3_d n) A_index_many.fin (params 0 args) h
theorem R_index_many_eq (n : Nat) (a0 : Val) (h : Heap) : R_index_many n [a0] h = bnd (cells? a0) fun c1 => bnd (aloadN ((h ++ [some (Row.mk (c1) true)])) 33 ((.c (.p h.length 0)))) fun v2 => bnd (S_index_depth [v2] ((h ++ [some (Row.mk (c1) true)]))) fun p3 => bnd (aconv .u64 p3.1) fun v4 => bnd (abin .shl (.c (.i .i64 1)) v4) fun v5 => some (v5, p3.2) := by kernel_rfl
theorem K_index_many : FnK Try.prog 181 A_index_many E_index_many R_index_many := .mk' (sound1 S_index_depth_ok sound0) Try.func181 (by kernel_rfl) (by intro n args h; kernel_rfl)
noncomputable def S_index_many : Fun := tidy (Lim A_index_many E_index_many)
theorem S_index_many_ok : SOk Try.prog 181 S_index_many := K_index_many.sok
theorem S_index_many_flat {n : Nat} {args : List Val} {h h2 : Heap} {v : Val} (he : R_index_many n args (ro h) = some (v, h2)) (hf : v.flat = true) : S_index_many args h = some (v, h) := K_index_many.flat he hf
def index_fine_o0 : List AOper := [{ dst := some 2, op := .mv (.v (.c (.b false))) }]
def index_fine_c0 : ACode := .ops index_fine_o0
def index_fine_o1 : List AOper := [{ dst := some 3, op := .mv (.t 0) }, { dst := some 4, op := .bin .geq (.t 3) (.v (.c (.i .i64 0))) }, { dst := some 5, op := .mv (.t 4) }, { dst := some 6, op := .mv (.t 0), guard := some (5, true) }, { dst := some 7, op := .bin .leq (.t 6) (.v (.c (.i .i64 65535))), guard := some (5, true) }, { dst := some 8, op := .pick (.t 5) (.t 7) (.v (.c (.b false))) }, { dst := some 2, op := .mv (.t 8) }]
def index_fine_c1 : ACode := .ops index_fine_o1
def index_fine_c2 : ACode := .seq [2] index_fine_c1 .ret
def index_fine_c3 : ACode := .seq [0] index_fine_c0 index_fine_c2
def A_index_fine : AFn := ⟨index_fine_c3, [.tmp 2]⟩
noncomputable def E_index_fine : Sums := disp0
noncomputable def index_fine_c0_d (n : Nat) : SmV := smOps E_index_fine index_fine_o0
noncomputable def index_fine_c1_d (n : Nat) : SmV := smOps E_index_fine index_fine_o1
noncomputable def index_fine_c2_d (n : Nat) : SmV := smSeq [2] (index_fine_c1_d n) smRet
noncomputable def index_fine_c3_d (n : Nat) : SmV := smSeq [0] (index_fine_c0_d n) (index_fine_c2_d n)
noncomputable def R_index_fine (n : Nat) (args : List Val) (h : Heap) : OptV := (index_fine_c3_d n) A_index_fine.fin (params 0 args) h
theorem R_index_fine_eq (n : Nat) (a0 : Val) (h : Heap) : R_index_fine n [a0] h = bnd (abin .geq a0 (.c (.i .i64 0))) fun v1 => bnd (gd v1 true (some (a0, h)) (some (.no, h))) fun p2 => bnd (gd v1 true (bnd (abin .leq p2.1 (.c (.i .i64 65535))) fun v3 => some (v3, p2.2)) (some (.no, p2.2))) fun p4 => bnd (apick v1 p4.1 (.c (.b false))) fun v5 => some (v5, p4.2) := by kernel_rfl
theorem K_index_fine : FnK Try.prog 182 A_index_fine E_index_fine R_index_fine := .mk' (sound0) Try.func182 (by kernel_rfl) (by intro n args h; kernel_rfl)
noncomputable def S_index_fine : Fun := tidy (Lim A_index_fine E_index_fine)
theorem S_index_fine_ok : SOk Try.prog 182 S_index_fine := K_index_fine.sok
theorem S_index_fine_flat {n : Nat} {args : List Val} {h h2 : Heap} {v : Val} (he : R_index_fine n args (ro h) = some (v, h2)) (hf : v.flat = true) : S_index_fine args h = some (v, h) := K_index_fine.flat he hf
def index_first_o0 : List AOper := [{ dst := some 2, op := .box (.t 0) }, { dst := some 4, op := .mv (.v (.c (.b false))) }]
def index_first_c0 : ACode := .ops index_first_o0
def index_first_o1 : List AOper := [{ dst := some 6, op := .mv (.t 1) }, { dst := some 7, op := .mv (.v (.c (.i .i64 0))) }]
def index_first_c1 : ACode := .ops index_first_o1
def index_first_o2 : List AOper := [{ dst := some 8, op := .bin .lss (.t 7) (.t 6) }]
def index_first_c2 : ACode := .ops index_first_o2
def index_first_c3 : ACode := .cond (.t 8) .skip (.exit 0)
def index_first_o3 : List AOper := [{ dst := some 9, op := .mv (.t 7) }, { dst := some 5, op := .mv (.t 9) }]
def index_first_c4 : ACode := .ops index_first_o3
def index_first_o4 : List AOper := [{ dst := some 10, op := .mv (.t 5) }, { dst := some 11, op := .fAddr (.t 2) 1 }, { dst := some 12, op := .iAddrA 32 1 (.t 11) (.t 10) }, { dst := some 13, op := .load1 (.t 12) }, { dst := some 14, op := .mv (.t 1) }, { dst := some 15, op := .fAddr (.t 2) 1 }, { dst := some 16, op := .iAddrA 32 1 (.t 15) (.t 14) }, { dst := some 17, op := .load1 (.t 16) }]
def index_first_o5 : List AOper := [{ dst := some 18, op := .bin .eql (.t 13) (.t 17) }]
def index_first_c5 : ACode := .draw 0 index_first_o4 index_first_o5
def index_first_o6 : List AOper := [{ dst := some 4, op := .mv (.v (.c (.b false))) }]
def index_first_c6 : ACode := .ops index_first_o6
def index_first_c7 : ACode := .seq [4] index_first_c6 .ret
def index_first_c8 : ACode := .cond (.t 18) index_first_c7 .skip
def index_first_c9 : ACode := .seq [1, 2, 6, 7, 18] index_first_c5 index_first_c8
def index_first_c10 : ACode := .seq [1, 2, 5, 6, 7] index_first_c4 index_first_c9
def index_first_c11 : ACode := .block 1 index_first_c10
def index_first_o7 : List AOper := [{ dst := some 19, op := .bin .add (.t 7) (.v (.c (.i .i64 1))) }, { dst := some 7, op := .mv (.t 19) }]
def index_first_c12 : ACode := .ops index_first_o7
def index_first_c13 : ACode := .seq [1, 2, 6, 7] index_first_c11 index_first_c12
def index_first_c14 : ACode := .seq [1, 2, 6, 7] index_first_c3 index_first_c13
def index_first_c15 : ACode := .seq [1, 2, 6, 7, 8] index_first_c2 index_first_c14
def index_first_c16 : ACode := .loop [1, 2, 6, 7] index_first_c15
def index_first_c17 : ACode := .block 0 index_first_c16
def index_first_c18 : ACode := .seq [1, 2, 6, 7] index_first_c1 index_first_c17
def index_first_o8 : List AOper := [{ dst := some 4, op := .mv (.v (.c (.b true))) }]
def index_first_c19 : ACode := .ops index_first_o8
def index_first_c20 : ACode := .seq [4] index_first_c19 .ret
def index_first_c21 : ACode := .seq [] index_first_c18 index_first_c20
def index_first_c22 : ACode := .seq [1, 2] index_first_c0 index_first_c21
def A_index_first : AFn := ⟨index_first_c22, [.tmp 4]⟩
noncomputable def E_index_first : Sums := disp0
noncomputable def index_first_c0_d (n : Nat) : SmV := smOps E_index_first index_first_o0
noncomputable def index_first_c1_d (n : Nat) : SmV := smOps E_index_first index_first_o1
noncomputable def index_first_c2_d (n : Nat) : SmV := smOps E_index_first index_first_o2
noncomputable def index_first_c3_d (n : Nat) : SmV := smCond (.t 8) smSkip (smExit 0)
noncomputable def index_first_c4_d (n : Nat) : SmV := smOps E_index_first index_first_o3
noncomputable def index_first_c5_d (n : Nat) : SmV := smDraw E_index_first 0 index_first_o4 index_first_o5
noncomputable def index_first_c6_d (n : Nat) : SmV := smOps E_index_first index_first_o6
noncomputable def index_first_c7_d (n : Nat) : SmV := smSeq [4] (index_first_c6_d n) smRet
noncomputable def index_first_c8_d (n : Nat) : SmV := smCond (.t 18) (index_first_c7_d n) smSkip
noncomputable def index_first_c9_d (n : Nat) : SmV := smSeq [1, 2, 6, 7, 18] (index_first_c5_d n) (index_first_c8_d n)
noncomputable def index_first_c10_d (n : Nat) : SmV := smSeq [1, 2, 5, 6, 7] (index_first_c4_d n) (index_first_c9_d n)
noncomputable def index_first_c11_d (n : Nat) : SmV := smBlock 1 (index_first_c10_d n)
noncomputable def index_first_c12_d (n : Nat) : SmV := smOps E_index_first index_first_o7
noncomputable def index_first_c13_d (n : Nat) : SmV := smSeq [1, 2, 6, 7] (index_first_c11_d n) (index_first_c12_d n)
noncomputable def index_first_c14_d (n : Nat) : SmV := smSeq [1, 2, 6, 7] (index_first_c3_d n) (index_first_c13_d n)
noncomputable def index_first_c15_d (n : Nat) : SmV := smSeq [1, 2, 6, 7, 8] (index_first_c2_d n) (index_first_c14_d n)
noncomputable def index_first_c16_d (n : Nat) : SmV := smLoop n [1, 2, 6, 7] (index_first_c15_d n)
noncomputable def index_first_c17_d (n : Nat) : SmV := smBlock 0 (index_first_c16_d n)
noncomputable def index_first_c18_d (n : Nat) : SmV := smSeq [1, 2, 6, 7] (index_first_c1_d n) (index_first_c17_d n)
noncomputable def index_first_c19_d (n : Nat) : SmV := smOps E_index_first index_first_o8
noncomputable def index_first_c20_d (n : Nat) : SmV := smSeq [4] (index_first_c19_d n) smRet
noncomputable def index_first_c21_d (n : Nat) : SmV := smSeq [] (index_first_c18_d n) (index_first_c20_d n)
noncomputable def index_first_c22_d (n : Nat) : SmV := smSeq [1, 2] (index_first_c0_d n) (index_first_c21_d n)
noncomputable def index_first_k0 (n : Nat) : AExit → Env → Heap → OptV := fun x e h => match x with | .normal => hold ((index_first_c20_d n) A_index_first.fin (e.keep []) h) | .exit id => A_index_first.fin (.exit id) e h | .ret => A_index_first.fin .ret e h
noncomputable def index_first_k1 (n : Nat) : AExit → Env → Heap → OptV := fun x e h => match x with | .exit i => bif Nat.beq i 0 then (index_first_k0 n) .normal e h else (index_first_k0 n) (.exit i) e h | .normal => (index_first_k0 n) .normal e h | .ret => (index_first_k0 n) .ret e h
noncomputable def index_first_l0 (n m : Nat) (x1 x2 x6 x7 : Val) (h : Heap) : OptV := around (index_first_c15_d n) [1, 2, 6, 7] (index_first_k1 n) m [(1, x1), (2, x2), (6, x6), (7, x7)] h
noncomputable def R_index_first (n : Nat) (args : List Val) (h : Heap) : OptV := (index_first_c22_d n) A_index_first.fin (params 0 args) h
theorem R_index_first_eq (n : Nat) (a0 a1 : Val) (h : Heap) : R_index_first n [a0, a1] h = bnd (cells? a0) fun c1 => index_first_l0 n n a1 ((.c (.p h.length 0))) a1 (.c (.i .i64 0)) ((h ++ [some (Row.mk (c1) true)])) := by kernel_rfl
theorem index_first_l0_eq (n m : Nat) (x1 x2 x6 x7 : Val) (h : Heap) : index_first_l0 n (m + 1) x1 x2 x6 x7 h = bnd (abin .lss x7 x6) fun v2 => cnd v2 (bnd (afAddr x2 1) fun v3 => bnd (aiAddrA 32 1 v3 x7) fun v4 => bnd (aload1 h v4) fun v5 => bnd (afAddr x2 1) fun v6 => bnd (aiAddrA 32 1 v6 x1) fun v7 => bnd (aload1 h v7) fun v8 => bnd (abin .eql v5 v8) fun v9 => cnd v9 (some ((.c (.b false)), (h ++ []))) (bnd (abin .add x7 (.c (.i .i64 1))) fun v10 => index_first_l0 n m x1 x2 x6 v10 ((h ++ [])))) (some ((.c (.b true)), h)) := by kernel_rfl
theorem K_index_first : FnK Try.prog 183 A_index_first E_index_first R_index_first := .mk' (sound0) Try.func183 (by kernel_rfl) (by intro n args h; kernel_rfl)
noncomputable def S_index_first : Fun := tidy (Lim A_index_first E_index_first)
theorem S_index_first_ok : SOk Try.prog 183 S_index_first := K_index_first.sok
theorem S_index_first_flat {n : Nat} {args : List Val} {h h2 : Heap} {v : Val} (he : R_index_first n args (ro h) = some (v, h2)) (hf : v.flat = true) : S_index_first args h = some (v, h) := K_index_first.flat he hf
def index_Places_o0 : List AOper := [{ dst := some 3, op := .box (.t 0) }, { dst := some 6, op := .nilrow 1 }]
def index_Places_c0 : ACode := .ops index_Places_o0
def index_Places_o1 : List AOper := [{ dst := some 10, op := .mv (.t 1) }, { dst := some 11, op := .bin .lss (.t 10) (.v (.c (.i .i64 0))) }, { dst := some 12, op := .mv (.t 11) }, { dst := some 13, op := .mv (.t 1), guard := some (12, false) }, { dst := some 14, op := .loadN 33 (.t 3), guard := some (12, false) }, { dst := some 15, op := .call 181 [(.t 14)], guard := some (12, false) }, { dst := some 16, op := .bin .geq (.t 13) (.t 15), guard := some (12, false) }, { dst := some 17, op := .pick (.t 12) (.v (.c (.b true))) (.t 16) }]
def index_Places_c1 : ACode := .ops index_Places_o1
def index_Places_o2 : List AOper := [{ dst := some 6, op := .nilrow 1 }]
def index_Places_c2 : ACode := .ops index_Places_o2
def index_Places_c3 : ACode := .seq [6] index_Places_c2 .ret
def index_Places_c4 : ACode := .cond (.t 17) index_Places_c3 .skip
def index_Places_c5 : ACode := .seq [1, 2, 3, 17] index_Places_c1 index_Places_c4
def index_Places_o3 : List AOper := [{ dst := some 18, op := .mv (.t 2) }, { dst := some 19, op := .loadN 33 (.t 3) }, { dst := some 20, op := .call 180 [(.t 19)] }, { dst := some 21, op := .min (.t 18) (.t 20) }, { dst := some 22, op := .max (.v (.c (.i .i64 0))) (.t 21) }, { dst := some 23, op := .conv .u64 (.t 22) }, { dst := some 24, op := .bin .shl (.v (.c (.i .i64 1))) (.t 23) }, { dst := some 7, op := .mv (.t 24) }]
def index_Places_c6 : ACode := .ops index_Places_o3
def index_Places_o4 : List AOper := [{ dst := some 8, op := .nilrow 1 }]
def index_Places_c7 : ACode := .ops index_Places_o4
def index_Places_o5 : List AOper := [{ dst := some 25, op := .mv (.t 1) }, { dst := some 26, op := .mv (.t 7) }, { dst := some 27, op := .bin .rem (.t 25) (.t 26) }, { dst := some 9, op := .mv (.t 27) }]
def index_Places_c8 : ACode := .ops index_Places_o5
def index_Places_o6 : List AOper := [{ dst := some 28, op := .mv (.t 9) }, { dst := some 29, op := .loadN 33 (.t 3) }, { dst := some 30, op := .call 181 [(.t 29)] }, { dst := some 31, op := .bin .lss (.t 28) (.t 30) }]
def index_Places_c9 : ACode := .ops index_Places_o6
def index_Places_c10 : ACode := .cond (.t 31) .skip (.exit 0)
def index_Places_c11 : ACode := .seq [3, 7, 8, 9, 31] index_Places_c9 index_Places_c10
def index_Places_o7 : List AOper := [{ dst := some 35, op := .mv (.t 8) }, { dst := some 36, op := .mv (.t 9) }, { dst := some 37, op := .buildSl 1 1 ([.i .i64 0]) [(0, 1, (.t 36))] }, { dst := some 38, op := .app 1 (.t 35) (.t 37) }, { dst := some 8, op := .mv (.t 38) }]
def index_Places_c12 : ACode := .ops index_Places_o7
def index_Places_c13 : ACode := .block 1 index_Places_c12
def index_Places_o8 : List AOper := [{ dst := some 32, op := .mv (.t 9) }, { dst := some 33, op := .mv (.t 7) }, { dst := some 34, op := .bin .add (.t 32) (.t 33) }, { dst := some 9, op := .mv (.t 34) }]
def index_Places_c14 : ACode := .ops index_Places_o8
def index_Places_c15 : ACode := .seq [3, 7, 8, 9] index_Places_c13 index_Places_c14
def index_Places_c16 : ACode := .seq [3, 7, 8, 9] index_Places_c11 index_Places_c15
def index_Places_c17 : ACode := .loop [3, 7, 8, 9] index_Places_c16
def index_Places_c18 : ACode := .block 0 index_Places_c17
def index_Places_c19 : ACode := .seq [3, 7, 8, 9] index_Places_c8 index_Places_c18
def index_Places_o9 : List AOper := [{ dst := some 39, op := .mv (.t 8) }, { dst := some 6, op := .mv (.t 39) }]
def index_Places_c20 : ACode := .ops index_Places_o9
def index_Places_c21 : ACode := .seq [6] index_Places_c20 .ret
def index_Places_c22 : ACode := .seq [8] index_Places_c19 index_Places_c21
def index_Places_c23 : ACode := .seq [1, 3, 7, 8] index_Places_c7 index_Places_c22
def index_Places_c24 : ACode := .seq [1, 3, 7] index_Places_c6 index_Places_c23
def index_Places_c25 : ACode := .seq [1, 2, 3] index_Places_c5 index_Places_c24
def index_Places_c26 : ACode := .seq [1, 2, 3] index_Places_c0 index_Places_c25
def A_index_Places : AFn := ⟨index_Places_c26, [.tmp 6]⟩
noncomputable def E_index_Places : Sums := disp 181 S_index_many (disp 180 S_index_depth disp0)
noncomputable def index_Places_c0_d (n : Nat) : SmV := smOps E_index_Places index_Places_o0
noncomputable def index_Places_c1_d (n : Nat) : SmV := smOps E_index_Places index_Places_o1
noncomputable def index_Places_c2_d (n : Nat) : SmV := smOps E_index_Places index_Places_o2
noncomputable def index_Places_c3_d (n : Nat) : SmV := smSeq [6] (index_Places_c2_d n) smRet
noncomputable def index_Places_c4_d (n : Nat) : SmV := smCond (.t 17) (index_Places_c3_d n) smSkip
noncomputable def index_Places_c5_d (n : Nat) : SmV := smSeq [1, 2, 3, 17] (index_Places_c1_d n) (index_Places_c4_d n)
noncomputable def index_Places_c6_d (n : Nat) : SmV := smOps E_index_Places index_Places_o3
noncomputable def index_Places_c7_d (n : Nat) : SmV := smOps E_index_Places index_Places_o4
noncomputable def index_Places_c8_d (n : Nat) : SmV := smOps E_index_Places index_Places_o5
noncomputable def index_Places_c9_d (n : Nat) : SmV := smOps E_index_Places index_Places_o6
noncomputable def index_Places_c10_d (n : Nat) : SmV := smCond (.t 31) smSkip (smExit 0)
noncomputable def index_Places_c11_d (n : Nat) : SmV := smSeq [3, 7, 8, 9, 31] (index_Places_c9_d n) (index_Places_c10_d n)
noncomputable def index_Places_c12_d (n : Nat) : SmV := smOps E_index_Places index_Places_o7
noncomputable def index_Places_c13_d (n : Nat) : SmV := smBlock 1 (index_Places_c12_d n)
noncomputable def index_Places_c14_d (n : Nat) : SmV := smOps E_index_Places index_Places_o8
noncomputable def index_Places_c15_d (n : Nat) : SmV := smSeq [3, 7, 8, 9] (index_Places_c13_d n) (index_Places_c14_d n)
noncomputable def index_Places_c16_d (n : Nat) : SmV := smSeq [3, 7, 8, 9] (index_Places_c11_d n) (index_Places_c15_d n)
noncomputable def index_Places_c17_d (n : Nat) : SmV := smLoop n [3, 7, 8, 9] (index_Places_c16_d n)
noncomputable def index_Places_c18_d (n : Nat) : SmV := smBlock 0 (index_Places_c17_d n)
noncomputable def index_Places_c19_d (n : Nat) : SmV := smSeq [3, 7, 8, 9] (index_Places_c8_d n) (index_Places_c18_d n)
noncomputable def index_Places_c20_d (n : Nat) : SmV := smOps E_index_Places index_Places_o9
noncomputable def index_Places_c21_d (n : Nat) : SmV := smSeq [6] (index_Places_c20_d n) smRet
noncomputable def index_Places_c22_d (n : Nat) : SmV := smSeq [8] (index_Places_c19_d n) (index_Places_c21_d n)
noncomputable def index_Places_c23_d (n : Nat) : SmV := smSeq [1, 3, 7, 8] (index_Places_c7_d n) (index_Places_c22_d n)
noncomputable def index_Places_c24_d (n : Nat) : SmV := smSeq [1, 3, 7] (index_Places_c6_d n) (index_Places_c23_d n)
noncomputable def index_Places_c25_d (n : Nat) : SmV := smSeq [1, 2, 3] (index_Places_c5_d n) (index_Places_c24_d n)
noncomputable def index_Places_c26_d (n : Nat) : SmV := smSeq [1, 2, 3] (index_Places_c0_d n) (index_Places_c25_d n)
noncomputable def index_Places_k0 (n : Nat) : AExit → Env → Heap → OptV := fun x e h => match x with | .normal => hold ((index_Places_c21_d n) A_index_Places.fin (e.keep [8]) h) | .exit id => A_index_Places.fin (.exit id) e h | .ret => A_index_Places.fin .ret e h
noncomputable def index_Places_k1 (n : Nat) : AExit → Env → Heap → OptV := fun x e h => match x with | .exit i => bif Nat.beq i 0 then (index_Places_k0 n) .normal e h else (index_Places_k0 n) (.exit i) e h | .normal => (index_Places_k0 n) .normal e h | .ret => (index_Places_k0 n) .ret e h
noncomputable def index_Places_l0 (n m : Nat) (x3 x7 x8 x9 : Val) (h : Heap) : OptV := around (index_Places_c16_d n) [3, 7, 8, 9] (index_Places_k1 n) m [(3, x3), (7, x7), (8, x8), (9, x9)] h
noncomputable def R_index_Places (n : Nat) (args : List Val) (h : Heap) : OptV := (index_Places_c26_d n) A_index_Places.fin (params 0 args) h
theorem R_index_Places_eq (n : Nat) (a0 a1 a2 : Val) (h : Heap) : R_index_Places n [a0, a1, a2] h = bnd (cells? a0) fun c1 => bnd (abin .lss a1 (.c (.i .i64 0))) fun v2 => bnd (gd v2 false (some (a1, ((h ++ [some (Row.mk (c1) true)]) ++ [some (Row.mk ([]) true)]))) (some (.no, ((h ++ [some (Row.mk (c1) true)]) ++ [some (Row.mk ([]) true)])))) fun p3 => bnd (gd v2 false (bnd (aloadN p3.2 33 ((.c (.p h.length 0)))) fun v4 => some (v4, p3.2)) (some (.no, p3.2))) fun p5 => bnd (gd v2 false (bnd (S_index_many [p5.1] p5.2) fun p6 => some (p6.1, p6.2)) (some (.no, p5.2))) fun p7 => bnd (gd v2 false (bnd (abin .geq p3.1 p7.1) fun v8 => some (v8, p7.2)) (some (.no, p7.2))) fun p9 => bnd (apick v2 (.c (.b true)) p9.1) fun v10 => cnd v10 (some (((.c (.sl p9.2.length 0 0 1))), (p9.2 ++ [some (Row.mk ([]) true)]))) (bnd (aloadN p9.2 33 ((.c (.p h.length 0)))) fun v11 => bnd (S_index_depth [v11] p9.2) fun p12 => bnd (amin a2 p12.1) fun v13 => bnd (amax (.c (.i .i64 0)) v13) fun v14 => bnd (aconv .u64 v14) fun v15 => bnd (abin .shl (.c (.i .i64 1)) v15) fun v16 => bnd (abin .rem a1 v16) fun v17 => index_Places_l0 n n ((.c (.p h.length 0))) v16 ((.c (.sl p12.2.length 0 0 1))) v17 ((p12.2 ++ [some (Row.mk ([]) true)]))) := by kernel_rfl
theorem index_Places_l0_eq (n m : Nat) (x3 x7 x8 x9 : Val) (h : Heap) : index_Places_l0 n (m + 1) x3 x7 x8 x9 h = bnd (aloadN h 33 x3) fun v18 => bnd (S_index_many [v18] h) fun p19 => bnd (abin .lss x9 p19.1) fun v20 => cnd v20 (bnd (afill ([.i .i64 0]) [(0, 1, x9)]) fun c21 => bnd (aapp ((p19.2 ++ [some (Row.mk (c21) true)])) 1 x8 ((.c (.sl p19.2.length 0 1 1)))) fun p22 => bnd (abin .add x9 x7) fun v23 => index_Places_l0 n m x3 x7 p22.1 v23 p22.2) (some (x8, p19.2)) := by kernel_rfl
theorem K_index_Places : FnK Try.prog 129 A_index_Places E_index_Places R_index_Places := .mk' (sound1 S_index_many_ok (sound1 S_index_depth_ok sound0)) Try.func129 (by kernel_rfl) (by intro n args h; kernel_rfl)
noncomputable def S_index_Places : Fun := tidy (Lim A_index_Places E_index_Places)
theorem S_index_Places_ok : SOk Try.prog 129 S_index_Places := K_index_Places.sok
theorem S_index_Places_low {n : Nat} {args : List Val} {h h2 : Heap} {v : Val} (he : R_index_Places n args (ro h) = some (v, h2)) (hf : v.low h.length = true) : S_index_Places args h = some (v, h) := K_index_Places.low he hf
theorem S_index_Places_out {n : Nat} {args : List Val} {h h2 : Heap} {v : Val} {sz k : Nat} {cs : List Cell} (he : R_index_Places n args (ro h) = some (v, h2)) (ho : Out h.length h2 v sz k cs) (hf : flats cs = true) : S_index_Places args h = some (.c (.sl h.length 0 k sz), h ++ [some ⟨cs, true⟩]) := K_index_Places.out he ho hf
def index_whole_o0 : List AOper := [{ dst := some 3, op := .box (.t 0) }, { dst := some 6, op := .mv (.v (.c (.b false))) }]
def index_whole_c0 : ACode := .ops index_whole_o0
def index_whole_o1 : List AOper := [{ dst := some 9, op := .mv (.t 1) }, { dst := some 10, op := .len (.t 9) }, { dst := some 11, op := .mv (.v (.c (.i .i64 0))) }]
def index_whole_c1 : ACode := .ops index_whole_o1
def index_whole_o2 : List AOper := [{ dst := some 12, op := .bin .lss (.t 11) (.t 10) }]
def index_whole_c2 : ACode := .ops index_whole_o2
def index_whole_c3 : ACode := .cond (.t 12) .skip (.exit 0)
def index_whole_o3 : List AOper := [{ dst := some 13, op := .iAddrL 1 (.t 9) (.t 11) }, { dst := some 14, op := .load1 (.t 13) }, { dst := some 8, op := .mv (.t 14) }]
def index_whole_c4 : ACode := .ops index_whole_o3
def index_whole_o4 : List AOper := [{ dst := some 15, op := .mv (.t 8) }, { dst := some 16, op := .fAddr (.t 3) 1 }, { dst := some 17, op := .iAddrA 32 1 (.t 16) (.t 15) }, { dst := some 18, op := .load1 (.t 17) }, { dst := some 19, op := .mv (.t 2) }, { dst := some 20, op := .bin .neq (.t 18) (.t 19) }]
def index_whole_c5 : ACode := .ops index_whole_o4
def index_whole_o5 : List AOper := [{ dst := some 6, op := .mv (.v (.c (.b false))) }]
def index_whole_c6 : ACode := .ops index_whole_o5
def index_whole_c7 : ACode := .seq [6] index_whole_c6 .ret
def index_whole_c8 : ACode := .cond (.t 20) index_whole_c7 .skip
def index_whole_c9 : ACode := .seq [2, 3, 9, 10, 11, 20] index_whole_c5 index_whole_c8
def index_whole_c10 : ACode := .seq [2, 3, 8, 9, 10, 11] index_whole_c4 index_whole_c9
def index_whole_c11 : ACode := .block 1 index_whole_c10
def index_whole_o6 : List AOper := [{ dst := some 21, op := .bin .add (.t 11) (.v (.c (.i .i64 1))) }, { dst := some 11, op := .mv (.t 21) }]
def index_whole_c12 : ACode := .ops index_whole_o6
def index_whole_c13 : ACode := .seq [2, 3, 9, 10, 11] index_whole_c11 index_whole_c12
def index_whole_c14 : ACode := .seq [2, 3, 9, 10, 11] index_whole_c3 index_whole_c13
def index_whole_c15 : ACode := .seq [2, 3, 9, 10, 11, 12] index_whole_c2 index_whole_c14
def index_whole_c16 : ACode := .loop [2, 3, 9, 10, 11] index_whole_c15
def index_whole_c17 : ACode := .block 0 index_whole_c16
def index_whole_c18 : ACode := .seq [2, 3, 9, 10, 11] index_whole_c1 index_whole_c17
def index_whole_o7 : List AOper := [{ dst := some 6, op := .mv (.v (.c (.b true))) }]
def index_whole_c19 : ACode := .ops index_whole_o7
def index_whole_c20 : ACode := .seq [6] index_whole_c19 .ret
def index_whole_c21 : ACode := .seq [] index_whole_c18 index_whole_c20
def index_whole_c22 : ACode := .seq [1, 2, 3] index_whole_c0 index_whole_c21
def A_index_whole : AFn := ⟨index_whole_c22, [.tmp 6]⟩
noncomputable def E_index_whole : Sums := disp0
noncomputable def index_whole_c0_d (n : Nat) : SmV := smOps E_index_whole index_whole_o0
noncomputable def index_whole_c1_d (n : Nat) : SmV := smOps E_index_whole index_whole_o1
noncomputable def index_whole_c2_d (n : Nat) : SmV := smOps E_index_whole index_whole_o2
noncomputable def index_whole_c3_d (n : Nat) : SmV := smCond (.t 12) smSkip (smExit 0)
noncomputable def index_whole_c4_d (n : Nat) : SmV := smOps E_index_whole index_whole_o3
noncomputable def index_whole_c5_d (n : Nat) : SmV := smOps E_index_whole index_whole_o4
noncomputable def index_whole_c6_d (n : Nat) : SmV := smOps E_index_whole index_whole_o5
noncomputable def index_whole_c7_d (n : Nat) : SmV := smSeq [6] (index_whole_c6_d n) smRet
noncomputable def index_whole_c8_d (n : Nat) : SmV := smCond (.t 20) (index_whole_c7_d n) smSkip
noncomputable def index_whole_c9_d (n : Nat) : SmV := smSeq [2, 3, 9, 10, 11, 20] (index_whole_c5_d n) (index_whole_c8_d n)
noncomputable def index_whole_c10_d (n : Nat) : SmV := smSeq [2, 3, 8, 9, 10, 11] (index_whole_c4_d n) (index_whole_c9_d n)
noncomputable def index_whole_c11_d (n : Nat) : SmV := smBlock 1 (index_whole_c10_d n)
noncomputable def index_whole_c12_d (n : Nat) : SmV := smOps E_index_whole index_whole_o6
noncomputable def index_whole_c13_d (n : Nat) : SmV := smSeq [2, 3, 9, 10, 11] (index_whole_c11_d n) (index_whole_c12_d n)
noncomputable def index_whole_c14_d (n : Nat) : SmV := smSeq [2, 3, 9, 10, 11] (index_whole_c3_d n) (index_whole_c13_d n)
noncomputable def index_whole_c15_d (n : Nat) : SmV := smSeq [2, 3, 9, 10, 11, 12] (index_whole_c2_d n) (index_whole_c14_d n)
noncomputable def index_whole_c16_d (n : Nat) : SmV := smLoop n [2, 3, 9, 10, 11] (index_whole_c15_d n)
noncomputable def index_whole_c17_d (n : Nat) : SmV := smBlock 0 (index_whole_c16_d n)
noncomputable def index_whole_c18_d (n : Nat) : SmV := smSeq [2, 3, 9, 10, 11] (index_whole_c1_d n) (index_whole_c17_d n)
noncomputable def index_whole_c19_d (n : Nat) : SmV := smOps E_index_whole index_whole_o7
noncomputable def index_whole_c20_d (n : Nat) : SmV := smSeq [6] (index_whole_c19_d n) smRet
noncomputable def index_whole_c21_d (n : Nat) : SmV := smSeq [] (index_whole_c18_d n) (index_whole_c20_d n)
noncomputable def index_whole_c22_d (n : Nat) : SmV := smSeq [1, 2, 3] (index_whole_c0_d n) (index_whole_c21_d n)
noncomputable def index_whole_k0 (n : Nat) : AExit → Env → Heap → OptV := fun x e h => match x with | .normal => hold ((index_whole_c20_d n) A_index_whole.fin (e.keep []) h) | .exit id => A_index_whole.fin (.exit id) e h | .ret => A_index_whole.fin .ret e h
noncomputable def index_whole_k1 (n : Nat) : AExit → Env → Heap → OptV := fun x e h => match x with | .exit i => bif Nat.beq i 0 then (index_whole_k0 n) .normal e h else (index_whole_k0 n) (.exit i) e h | .normal => (index_whole_k0 n) .normal e h | .ret => (index_whole_k0 n) .ret e h
noncomputable def index_whole_l0 (n m : Nat) (x2 x3 x9 x10 x11 : Val) (h : Heap) : OptV := around (index_whole_c15_d n) [2, 3, 9, 10, 11] (index_whole_k1 n) m [(2, x2), (3, x3), (9, x9), (10, x10), (11, x11)] h
noncomputable def R_index_whole (n : Nat) (args : List Val) (h : Heap) : OptV := (index_whole_c22_d n) A_index_whole.fin (params 0 args) h
theorem R_index_whole_eq (n : Nat) (a0 a1 a2 : Val) (h : Heap) : R_index_whole n [a0, a1, a2] h = bnd (cells? a0) fun c1 => bnd (alen a1) fun v2 => index_whole_l0 n n a2 ((.c (.p h.length 0))) a1 v2 (.c (.i .i64 0)) ((h ++ [some (Row.mk (c1) true)])) := by kernel_rfl
theorem index_whole_l0_eq (n m : Nat) (x2 x3 x9 x10 x11 : Val) (h : Heap) : index_whole_l0 n (m + 1) x2 x3 x9 x10 x11 h = bnd (abin .lss x11 x10) fun v3 => cnd v3 (bnd (aiAddrL 1 x9 x11) fun v4 => bnd (aload1 h v4) fun v5 => bnd (afAddr x3 1) fun v6 => bnd (aiAddrA 32 1 v6 v5) fun v7 => bnd (aload1 h v7) fun v8 => bnd (abin .neq v8 x2) fun v9 => cnd v9 (some ((.c (.b false)), h)) (bnd (abin .add x11 (.c (.i .i64 1))) fun v10 => index_whole_l0 n m x2 x3 x9 x10 v10 h)) (some ((.c (.b true)), h)) := by kernel_rfl
theorem K_index_whole : FnK Try.prog 188 A_index_whole E_index_whole R_index_whole := .mk' (sound0) Try.func188 (by kernel_rfl) (by intro n args h; kernel_rfl)
noncomputable def S_index_whole : Fun := tidy (Lim A_index_whole E_index_whole)
theorem S_index_whole_ok : SOk Try.prog 188 S_index_whole := K_index_whole.sok
theorem S_index_whole_flat {n : Nat} {args : List Val} {h h2 : Heap} {v : Val} (he : R_index_whole n args (ro h) = some (v, h2)) (hf : v.flat = true) : S_index_whole args h = some (v, h) := K_index_whole.flat he hf
def index_Bits_o0 : List AOper := [{ dst := some 2, op := .box (.t 0) }, { dst := some 4, op := .mv (.v (.c (.i .i64 0))) }]
def index_Bits_c0 : ACode := .ops index_Bits_o0
def index_Bits_o1 : List AOper := [{ dst := some 6, op := .mv (.t 1) }, { dst := some 7, op := .bin .lss (.t 6) (.v (.c (.i .i64 0))) }, { dst := some 8, op := .mv (.t 7) }, { dst := some 9, op := .mv (.t 1), guard := some (8, false) }, { dst := some 10, op := .loadN 33 (.t 2), guard := some (8, false) }, { dst := some 11, op := .call 181 [(.t 10)], guard := some (8, false) }, { dst := some 12, op := .bin .geq (.t 9) (.t 11), guard := some (8, false) }, { dst := some 13, op := .pick (.t 8) (.v (.c (.b true))) (.t 12) }]
def index_Bits_c1 : ACode := .ops index_Bits_o1
def index_Bits_o2 : List AOper := [{ dst := some 4, op := .mv (.v (.c (.i .i64 0))) }]
def index_Bits_c2 : ACode := .ops index_Bits_o2
def index_Bits_c3 : ACode := .seq [4] index_Bits_c2 .ret
def index_Bits_c4 : ACode := .cond (.t 13) index_Bits_c3 .skip
def index_Bits_c5 : ACode := .seq [1, 2, 13] index_Bits_c1 index_Bits_c4
def index_Bits_o3 : List AOper := [{ dst := some 14, op := .loadN 33 (.t 2) }, { dst := some 15, op := .call 180 [(.t 14)] }, { dst := some 16, op := .mv (.v (.c (.i .i64 0))) }]
def index_Bits_c6 : ACode := .ops index_Bits_o3
def index_Bits_o4 : List AOper := [{ dst := some 17, op := .bin .lss (.t 16) (.t 15) }]
def index_Bits_c7 : ACode := .ops index_Bits_o4
def index_Bits_c8 : ACode := .cond (.t 17) .skip (.exit 0)
def index_Bits_o5 : List AOper := [{ dst := some 18, op := .mv (.t 16) }, { dst := some 5, op := .mv (.t 18) }]
def index_Bits_c9 : ACode := .ops index_Bits_o5
def index_Bits_o6 : List AOper := [{ dst := some 19, op := .mv (.t 1) }, { dst := some 20, op := .fAddr (.t 2) 1 }, { dst := some 21, op := .iAddrA 32 1 (.t 20) (.t 19) }, { dst := some 22, op := .load1 (.t 21) }, { dst := some 23, op := .bin .neq (.t 22) (.v (.c (.i .i64 0))) }, { dst := some 24, op := .mv (.t 23) }, { dst := some 25, op := .loadN 33 (.t 2), guard := some (24, true) }, { dst := some 26, op := .loadN 33 (.t 2), guard := some (24, true) }, { dst := some 27, op := .mv (.t 1), guard := some (24, true) }, { dst := some 28, op := .mv (.t 5), guard := some (24, true) }, { dst := some 29, op := .call 129 [(.t 26), (.t 27), (.t 28)], guard := some (24, true) }, { dst := some 30, op := .mv (.t 1), guard := some (24, true) }, { dst := some 31, op := .fAddr (.t 2) 1, guard := some (24, true) }, { dst := some 32, op := .iAddrA 32 1 (.t 31) (.t 30), guard := some (24, true) }, { dst := some 33, op := .load1 (.t 32), guard := some (24, true) }]
def index_Bits_o7 : List AOper := [{ dst := some 34, op := .call 188 [(.t 25), (.t 29), (.t 33)], guard := some (24, true) }, { dst := some 35, op := .pick (.t 24) (.t 34) (.v (.c (.b false))) }]
def index_Bits_c10 : ACode := .draw 0 index_Bits_o6 index_Bits_o7
def index_Bits_o8 : List AOper := [{ dst := some 36, op := .mv (.t 5) }, { dst := some 4, op := .mv (.t 36) }]
def index_Bits_c11 : ACode := .ops index_Bits_o8
def index_Bits_c12 : ACode := .seq [4] index_Bits_c11 .ret
def index_Bits_c13 : ACode := .cond (.t 35) index_Bits_c12 .skip
def index_Bits_c14 : ACode := .seq [1, 2, 5, 15, 16, 35] index_Bits_c10 index_Bits_c13
def index_Bits_c15 : ACode := .seq [1, 2, 5, 15, 16] index_Bits_c9 index_Bits_c14
def index_Bits_c16 : ACode := .block 1 index_Bits_c15
def index_Bits_o9 : List AOper := [{ dst := some 37, op := .bin .add (.t 16) (.v (.c (.i .i64 1))) }, { dst := some 16, op := .mv (.t 37) }]
def index_Bits_c17 : ACode := .ops index_Bits_o9
def index_Bits_c18 : ACode := .seq [1, 2, 15, 16] index_Bits_c16 index_Bits_c17
def index_Bits_c19 : ACode := .seq [1, 2, 15, 16] index_Bits_c8 index_Bits_c18
def index_Bits_c20 : ACode := .seq [1, 2, 15, 16, 17] index_Bits_c7 index_Bits_c19
def index_Bits_c21 : ACode := .loop [1, 2, 15, 16] index_Bits_c20
def index_Bits_c22 : ACode := .block 0 index_Bits_c21
def index_Bits_c23 : ACode := .seq [1, 2, 15, 16] index_Bits_c6 index_Bits_c22
def index_Bits_o10 : List AOper := [{ dst := some 38, op := .loadN 33 (.t 2) }, { dst := some 39, op := .call 180 [(.t 38)] }, { dst := some 4, op := .mv (.t 39) }]
def index_Bits_c24 : ACode := .ops index_Bits_o10
def index_Bits_c25 : ACode := .seq [4] index_Bits_c24 .ret
def index_Bits_c26 : ACode := .seq [2] index_Bits_c23 index_Bits_c25
def index_Bits_c27 : ACode := .seq [1, 2] index_Bits_c5 index_Bits_c26
def index_Bits_c28 : ACode := .seq [1, 2] index_Bits_c0 index_Bits_c27
def A_index_Bits : AFn := ⟨index_Bits_c28, [.tmp 4]⟩
noncomputable def E_index_Bits : Sums := disp 181 S_index_many (disp 180 S_index_depth (disp 129 S_index_Places (disp 188 S_index_whole disp0)))
noncomputable def index_Bits_c0_d (n : Nat) : SmV := smOps E_index_Bits index_Bits_o0
noncomputable def index_Bits_c1_d (n : Nat) : SmV := smOps E_index_Bits index_Bits_o1
noncomputable def index_Bits_c2_d (n : Nat) : SmV := smOps E_index_Bits index_Bits_o2
noncomputable def index_Bits_c3_d (n : Nat) : SmV := smSeq [4] (index_Bits_c2_d n) smRet
noncomputable def index_Bits_c4_d (n : Nat) : SmV := smCond (.t 13) (index_Bits_c3_d n) smSkip
noncomputable def index_Bits_c5_d (n : Nat) : SmV := smSeq [1, 2, 13] (index_Bits_c1_d n) (index_Bits_c4_d n)
noncomputable def index_Bits_c6_d (n : Nat) : SmV := smOps E_index_Bits index_Bits_o3
noncomputable def index_Bits_c7_d (n : Nat) : SmV := smOps E_index_Bits index_Bits_o4
noncomputable def index_Bits_c8_d (n : Nat) : SmV := smCond (.t 17) smSkip (smExit 0)
noncomputable def index_Bits_c9_d (n : Nat) : SmV := smOps E_index_Bits index_Bits_o5
noncomputable def index_Bits_c10_d (n : Nat) : SmV := smDraw E_index_Bits 0 index_Bits_o6 index_Bits_o7
noncomputable def index_Bits_c11_d (n : Nat) : SmV := smOps E_index_Bits index_Bits_o8
noncomputable def index_Bits_c12_d (n : Nat) : SmV := smSeq [4] (index_Bits_c11_d n) smRet
noncomputable def index_Bits_c13_d (n : Nat) : SmV := smCond (.t 35) (index_Bits_c12_d n) smSkip
noncomputable def index_Bits_c14_d (n : Nat) : SmV := smSeq [1, 2, 5, 15, 16, 35] (index_Bits_c10_d n) (index_Bits_c13_d n)
noncomputable def index_Bits_c15_d (n : Nat) : SmV := smSeq [1, 2, 5, 15, 16] (index_Bits_c9_d n) (index_Bits_c14_d n)
noncomputable def index_Bits_c16_d (n : Nat) : SmV := smBlock 1 (index_Bits_c15_d n)
noncomputable def index_Bits_c17_d (n : Nat) : SmV := smOps E_index_Bits index_Bits_o9
noncomputable def index_Bits_c18_d (n : Nat) : SmV := smSeq [1, 2, 15, 16] (index_Bits_c16_d n) (index_Bits_c17_d n)
noncomputable def index_Bits_c19_d (n : Nat) : SmV := smSeq [1, 2, 15, 16] (index_Bits_c8_d n) (index_Bits_c18_d n)
noncomputable def index_Bits_c20_d (n : Nat) : SmV := smSeq [1, 2, 15, 16, 17] (index_Bits_c7_d n) (index_Bits_c19_d n)
noncomputable def index_Bits_c21_d (n : Nat) : SmV := smLoop n [1, 2, 15, 16] (index_Bits_c20_d n)
noncomputable def index_Bits_c22_d (n : Nat) : SmV := smBlock 0 (index_Bits_c21_d n)
noncomputable def index_Bits_c23_d (n : Nat) : SmV := smSeq [1, 2, 15, 16] (index_Bits_c6_d n) (index_Bits_c22_d n)
noncomputable def index_Bits_c24_d (n : Nat) : SmV := smOps E_index_Bits index_Bits_o10
noncomputable def index_Bits_c25_d (n : Nat) : SmV := smSeq [4] (index_Bits_c24_d n) smRet
noncomputable def index_Bits_c26_d (n : Nat) : SmV := smSeq [2] (index_Bits_c23_d n) (index_Bits_c25_d n)
noncomputable def index_Bits_c27_d (n : Nat) : SmV := smSeq [1, 2] (index_Bits_c5_d n) (index_Bits_c26_d n)
noncomputable def index_Bits_c28_d (n : Nat) : SmV := smSeq [1, 2] (index_Bits_c0_d n) (index_Bits_c27_d n)
noncomputable def index_Bits_k0 (n : Nat) : AExit → Env → Heap → OptV := fun x e h => match x with | .normal => hold ((index_Bits_c25_d n) A_index_Bits.fin (e.keep [2]) h) | .exit id => A_index_Bits.fin (.exit id) e h | .ret => A_index_Bits.fin .ret e h
noncomputable def index_Bits_k1 (n : Nat) : AExit → Env → Heap → OptV := fun x e h => match x with | .exit i => bif Nat.beq i 0 then (index_Bits_k0 n) .normal e h else (index_Bits_k0 n) (.exit i) e h | .normal => (index_Bits_k0 n) .normal e h | .ret => (index_Bits_k0 n) .ret e h
noncomputable def index_Bits_l0 (n m : Nat) (x1 x2 x15 x16 : Val) (h : Heap) : OptV := around (index_Bits_c20_d n) [1, 2, 15, 16] (index_Bits_k1 n) m [(1, x1), (2, x2), (15, x15), (16, x16)] h
noncomputable def R_index_Bits (n : Nat) (args : List Val) (h : Heap) : OptV := (index_Bits_c28_d n) A_index_Bits.fin (params 0 args) h
theorem R_index_Bits_eq (n : Nat) (a0 a1 : Val) (h : Heap) : R_index_Bits n [a0, a1] h = bnd (cells? a0) fun c1 => bnd (abin .lss a1 (.c (.i .i64 0))) fun v2 => bnd (gd v2 false (some (a1, (h ++ [some (Row.mk (c1) true)]))) (some (.no, (h ++ [some (Row.mk (c1) true)])))) fun p3 => bnd (gd v2 false (bnd (aloadN p3.2 33 ((.c (.p h.length 0)))) fun v4 => some (v4, p3.2)) (some (.no, p3.2))) fun p5 => bnd (gd v2 false (bnd (S_index_many [p5.1] p5.2) fun p6 => some (p6.1, p6.2)) (some (.no, p5.2))) fun p7 => bnd (gd v2 false (bnd (abin .geq p3.1 p7.1) fun v8 => some (v8, p7.2)) (some (.no, p7.2))) fun p9 => bnd (apick v2 (.c (.b true)) p9.1) fun v10 => cnd v10 (some ((.c (.i .i64 0)), p9.2)) (bnd (aloadN p9.2 33 ((.c (.p h.length 0)))) fun v11 => bnd (S_index_depth [v11] p9.2) fun p12 => index_Bits_l0 n n a1 ((.c (.p h.length 0))) p12.1 (.c (.i .i64 0)) p12.2) := by kernel_rfl
theorem index_Bits_l0_eq (n m : Nat) (x1 x2 x15 x16 : Val) (h : Heap) : index_Bits_l0 n (m + 1) x1 x2 x15 x16 h = bnd (abin .lss x16 x15) fun v13 => cnd v13 (bnd (afAddr x2 1) fun v14 => bnd (aiAddrA 32 1 v14 x1) fun v15 => bnd (aload1 h v15) fun v16 => bnd (abin .neq v16 (.c (.i .i64 0))) fun v17 => bnd (gd v17 true (bnd (aloadN h 33 x2) fun v18 => some (v18, (h ++ []))) (some (.no, (h ++ [])))) fun p19 => bnd (gd v17 true (bnd (aloadN h 33 x2) fun v20 => some (v20, p19.2)) (some (.no, p19.2))) fun p21 => bnd (gd v17 true (some (x1, p21.2)) (some (.no, p21.2))) fun p22 => bnd (gd v17 true (some (x16, p22.2)) (some (.no, p22.2))) fun p23 => bnd (gd v17 true (bnd (quiet p23.2 (S_index_Places [p21.1, p22.1, p23.1] p23.2)) fun p24 => some (p24.1, p24.2)) (some (.no, p23.2))) fun p25 => bnd (gd v17 true (some (x1, p25.2)) (some (.no, p25.2))) fun p26 => bnd (gd v17 true (bnd (afAddr x2 1) fun v27 => some (v27, p26.2)) (some (.no, p26.2))) fun p28 => bnd (gd v17 true (bnd (aiAddrA 32 1 p28.1 p26.1) fun v29 => some (v29, p28.2)) (some (.no, p28.2))) fun p30 => bnd (gd v17 true (bnd (aload1 h p30.1) fun v31 => some (v31, p30.2)) (some (.no, p30.2))) fun p32 => bnd (gd v17 true (bnd (S_index_whole [p19.1, p25.1, p32.1] p32.2) fun p33 => some (p33.1, p33.2)) (some (.no, p32.2))) fun p34 => bnd (apick v17 p34.1 (.c (.b false))) fun v35 => cnd v35 (some (x16, p34.2)) (bnd (abin .add x16 (.c (.i .i64 1))) fun v36 => index_Bits_l0 n m x1 x2 x15 v36 p34.2)) (bnd (aloadN h 33 x2) fun v37 => bnd (S_index_depth [v37] h) fun p38 => some (p38.1, p38.2)) := by kernel_rfl
theorem K_index_Bits : FnK Try.prog 127 A_index_Bits E_index_Bits R_index_Bits := .mk' (sound1 S_index_many_ok (sound1 S_index_depth_ok (sound1 S_index_Places_ok (sound1 S_index_whole_ok sound0)))) Try.func127 (by kernel_rfl) (by intro n args h; kernel_rfl)
noncomputable def S_index_Bits : Fun := tidy (Lim A_index_Bits E_index_Bits)
theorem S_index_Bits_ok : SOk Try.prog 127 S_index_Bits := K_index_Bits.sok
theorem S_index_Bits_flat {n : Nat} {args : List Val} {h h2 : Heap} {v : Val} (he : R_index_Bits n args (ro h) = some (v, h2)) (hf : v.flat = true) : S_index_Bits args h = some (v, h) := K_index_Bits.flat he hf
def index_count_o0 : List AOper := [{ dst := some 2, op := .box (.t 0) }, { dst := some 4, op := .mv (.v (.c (.i .i64 0))) }]
def index_count_c0 : ACode := .ops index_count_o0
def index_count_o1 : List AOper := [{ dst := some 5, op := .mv (.v (.c (.i .i64 0))) }]
def index_count_c1 : ACode := .ops index_count_o1
def index_count_o2 : List AOper := [{ dst := some 7, op := .loadN 33 (.t 2) }, { dst := some 8, op := .call 181 [(.t 7)] }, { dst := some 9, op := .mv (.v (.c (.i .i64 0))) }]
def index_count_c2 : ACode := .ops index_count_o2
def index_count_o3 : List AOper := [{ dst := some 10, op := .bin .lss (.t 9) (.t 8) }]
def index_count_c3 : ACode := .ops index_count_o3
def index_count_c4 : ACode := .cond (.t 10) .skip (.exit 0)
def index_count_o4 : List AOper := [{ dst := some 11, op := .mv (.t 9) }, { dst := some 6, op := .mv (.t 11) }]
def index_count_c5 : ACode := .ops index_count_o4
def index_count_o5 : List AOper := [{ dst := some 12, op := .mv (.t 6) }, { dst := some 13, op := .fAddr (.t 2) 1 }, { dst := some 14, op := .iAddrA 32 1 (.t 13) (.t 12) }, { dst := some 15, op := .load1 (.t 14) }, { dst := some 16, op := .mv (.t 1) }, { dst := some 17, op := .bin .eql (.t 15) (.t 16) }]
def index_count_c6 : ACode := .ops index_count_o5
def index_count_o6 : List AOper := [{ dst := some 18, op := .mv (.t 5) }, { dst := some 19, op := .bin .add (.t 18) (.v (.c (.i .i64 1))) }, { dst := some 5, op := .mv (.t 19) }]
def index_count_c7 : ACode := .ops index_count_o6
def index_count_c8 : ACode := .cond (.t 17) index_count_c7 .skip
def index_count_c9 : ACode := .seq [1, 2, 5, 8, 9, 17] index_count_c6 index_count_c8
def index_count_c10 : ACode := .seq [1, 2, 5, 6, 8, 9] index_count_c5 index_count_c9
def index_count_c11 : ACode := .block 1 index_count_c10
def index_count_o7 : List AOper := [{ dst := some 20, op := .bin .add (.t 9) (.v (.c (.i .i64 1))) }, { dst := some 9, op := .mv (.t 20) }]
def index_count_c12 : ACode := .ops index_count_o7
def index_count_c13 : ACode := .seq [1, 2, 5, 8, 9] index_count_c11 index_count_c12
def index_count_c14 : ACode := .seq [1, 2, 5, 8, 9] index_count_c4 index_count_c13
def index_count_c15 : ACode := .seq [1, 2, 5, 8, 9, 10] index_count_c3 index_count_c14
def index_count_c16 : ACode := .loop [1, 2, 5, 8, 9] index_count_c15
def index_count_c17 : ACode := .block 0 index_count_c16
def index_count_c18 : ACode := .seq [1, 2, 5, 8, 9] index_count_c2 index_count_c17
def index_count_o8 : List AOper := [{ dst := some 21, op := .mv (.t 5) }, { dst := some 4, op := .mv (.t 21) }]
def index_count_c19 : ACode := .ops index_count_o8
def index_count_c20 : ACode := .seq [4] index_count_c19 .ret
def index_count_c21 : ACode := .seq [5] index_count_c18 index_count_c20
def index_count_c22 : ACode := .seq [1, 2, 5] index_count_c1 index_count_c21
def index_count_c23 : ACode := .seq [1, 2] index_count_c0 index_count_c22
def A_index_count : AFn := ⟨index_count_c23, [.tmp 4]⟩
noncomputable def E_index_count : Sums := disp 181 S_index_many disp0
noncomputable def index_count_c0_d (n : Nat) : SmV := smOps E_index_count index_count_o0
noncomputable def index_count_c1_d (n : Nat) : SmV := smOps E_index_count index_count_o1
noncomputable def index_count_c2_d (n : Nat) : SmV := smOps E_index_count index_count_o2
noncomputable def index_count_c3_d (n : Nat) : SmV := smOps E_index_count index_count_o3
noncomputable def index_count_c4_d (n : Nat) : SmV := smCond (.t 10) smSkip (smExit 0)
noncomputable def index_count_c5_d (n : Nat) : SmV := smOps E_index_count index_count_o4
noncomputable def index_count_c6_d (n : Nat) : SmV := smOps E_index_count index_count_o5
noncomputable def index_count_c7_d (n : Nat) : SmV := smOps E_index_count index_count_o6
noncomputable def index_count_c8_d (n : Nat) : SmV := smCond (.t 17) (index_count_c7_d n) smSkip
noncomputable def index_count_c9_d (n : Nat) : SmV := smSeq [1, 2, 5, 8, 9, 17] (index_count_c6_d n) (index_count_c8_d n)
noncomputable def index_count_c10_d (n : Nat) : SmV := smSeq [1, 2, 5, 6, 8, 9] (index_count_c5_d n) (index_count_c9_d n)
noncomputable def index_count_c11_d (n : Nat) : SmV := smBlock 1 (index_count_c10_d n)
noncomputable def index_count_c12_d (n : Nat) : SmV := smOps E_index_count index_count_o7
noncomputable def index_count_c13_d (n : Nat) : SmV := smSeq [1, 2, 5, 8, 9] (index_count_c11_d n) (index_count_c12_d n)
noncomputable def index_count_c14_d (n : Nat) : SmV := smSeq [1, 2, 5, 8, 9] (index_count_c4_d n) (index_count_c13_d n)
noncomputable def index_count_c15_d (n : Nat) : SmV := smSeq [1, 2, 5, 8, 9, 10] (index_count_c3_d n) (index_count_c14_d n)
noncomputable def index_count_c16_d (n : Nat) : SmV := smLoop n [1, 2, 5, 8, 9] (index_count_c15_d n)
noncomputable def index_count_c17_d (n : Nat) : SmV := smBlock 0 (index_count_c16_d n)
noncomputable def index_count_c18_d (n : Nat) : SmV := smSeq [1, 2, 5, 8, 9] (index_count_c2_d n) (index_count_c17_d n)
noncomputable def index_count_c19_d (n : Nat) : SmV := smOps E_index_count index_count_o8
noncomputable def index_count_c20_d (n : Nat) : SmV := smSeq [4] (index_count_c19_d n) smRet
noncomputable def index_count_c21_d (n : Nat) : SmV := smSeq [5] (index_count_c18_d n) (index_count_c20_d n)
noncomputable def index_count_c22_d (n : Nat) : SmV := smSeq [1, 2, 5] (index_count_c1_d n) (index_count_c21_d n)
noncomputable def index_count_c23_d (n : Nat) : SmV := smSeq [1, 2] (index_count_c0_d n) (index_count_c22_d n)
noncomputable def index_count_k0 (n : Nat) : AExit → Env → Heap → OptV := fun x e h => match x with | .normal => hold ((index_count_c20_d n) A_index_count.fin (e.keep [5]) h) | .exit id => A_index_count.fin (.exit id) e h | .ret => A_index_count.fin .ret e h
noncomputable def index_count_k1 (n : Nat) : AExit → Env → Heap → OptV := fun x e h => match x with | .exit i => bif Nat.beq i 0 then (index_count_k0 n) .normal e h else (index_count_k0 n) (.exit i) e h | .normal => (index_count_k0 n) .normal e h | .ret => (index_count_k0 n) .ret e h
noncomputable def index_count_l0 (n m : Nat) (x1 x2 x5 x8 x9 : Val) (h : Heap) : OptV := around (index_count_c15_d n) [1, 2, 5, 8, 9] (index_count_k1 n) m [(1, x1), (2, x2), (5, x5), (8, x8), (9, x9)] h
noncomputable def R_index_count (n : Nat) (args : List Val) (h : Heap) : OptV := (index_count_c23_d n) A_index_count.fin (params 0 args) h
noncomputable def index_count_k2 (n m : Nat) : AExit → Env → Heap → OptV := fun x e h => match x with | .normal => around (index_count_c15_d n) [1, 2, 5, 8, 9] (index_count_k1 n) m (e.keep [1, 2, 5, 8, 9]) h | .exit id => (index_count_k1 n) (.exit id) e h | .ret => (index_count_k1 n) .ret e h
noncomputable def index_count_j0 (n m : Nat) (x1 x2 x5 x8 x9 : Val) (h : Heap) : OptV := hold ((index_count_c12_d n) (index_count_k2 n m) [(1, x1), (2, x2), (5, x5), (8, x8), (9, x9)] h)
theorem R_index_count_eq (n : Nat) (a0 a1 : Val) (h : Heap) : R_index_count n [a0, a1] h = bnd (cells? a0) fun c1 => bnd (aloadN ((h ++ [some (Row.mk (c1) true)])) 33 ((.c (.p h.length 0)))) fun v2 => bnd (S_index_many [v2] ((h ++ [some (Row.mk (c1) true)]))) fun p3 => index_count_l0 n n a1 ((.c (.p h.length 0))) (.c (.i .i64 0)) p3.1 (.c (.i .i64 0)) p3.2 := by kernel_rfl
theorem index_count_l0_eq (n m : Nat) (x1 x2 x5 x8 x9 : Val) (h : Heap) : index_count_l0 n (m + 1) x1 x2 x5 x8 x9 h = bnd (abin .lss x9 x8) fun v4 => cnd v4 (bnd (afAddr x2 1) fun v5 => bnd (aiAddrA 32 1 v5 x9) fun v6 => bnd (aload1 h v6) fun v7 => bnd (abin .eql v7 x1) fun v8 => cnd v8 (bnd (abin .add x5 (.c (.i .i64 1))) fun v9 => index_count_j0 n m x1 x2 v9 x8 x9 h) (index_count_j0 n m x1 x2 x5 x8 x9 h)) (some (x5, h)) := by kernel_rfl
theorem index_count_j0_eq (n m : Nat) (x1 x2 x5 x8 x9 : Val) (h : Heap) : index_count_j0 n m x1 x2 x5 x8 x9 h = bnd (abin .add x9 (.c (.i .i64 1))) fun v10 => index_count_l0 n m x1 x2 x5 x8 v10 h := by kernel_rfl
theorem K_index_count : FnK Try.prog 184 A_index_count E_index_count R_index_count := .mk' (sound1 S_index_many_ok sound0) Try.func184 (by kernel_rfl) (by intro n args h; kernel_rfl)
noncomputable def S_index_count : Fun := tidy (Lim A_index_count E_index_count)
theorem S_index_count_ok : SOk Try.prog 184 S_index_count := K_index_count.sok
theorem S_index_count_flat {n : Nat} {args : List Val} {h h2 : Heap} {v : Val} (he : R_index_count n args (ro h) = some (v, h2)) (hf : v.flat = true) : S_index_count args h = some (v, h) := K_index_count.flat he hf
def index_Fix_o0 : List AOper := [{ dst := some 1, op := .box (.t 0) }, { dst := some 2, op := .alloc ([.i .i64 0] ++ List.replicate 32 (.i .i64 0)) }]
def index_Fix_c0 : ACode := .ops index_Fix_o0
def index_Fix_o1 : List AOper := [{ dst := some 6, op := .fAddr (.t 1) 0 }, { dst := some 7, op := .load1 (.t 6) }, { dst := some 8, op := .loadN 33 (.t 1) }, { dst := some 9, op := .call 180 [(.t 8)] }]
def index_Fix_o2 : List AOper := [{ dst := some 10, op := .bin .neq (.t 7) (.t 9) }]
def index_Fix_c1 : ACode := .draw 0 index_Fix_o1 index_Fix_o2
def index_Fix_o3 : List AOper := [{ dst := some 11, op := .build ([.i .i64 0] ++ List.replicate 32 (.i .i64 0)) [] }, { dst := none, op := .storeN 33 (.t 2) (.t 11) }]
def index_Fix_c2 : ACode := .ops index_Fix_o3
def index_Fix_c3 : ACode := .seq [2] index_Fix_c2 .ret
def index_Fix_c4 : ACode := .cond (.t 10) index_Fix_c3 .skip
def index_Fix_c5 : ACode := .seq [1, 2, 10] index_Fix_c1 index_Fix_c4
def index_Fix_o4 : List AOper := [{ dst := some 12, op := .fAddr (.t 1) 0 }, { dst := some 13, op := .load1 (.t 12) }, { dst := some 14, op := .build ([.i .i64 0] ++ List.replicate 32 (.i .i64 0)) [(0, 1, (.t 13))] }, { dst := some 3, op := .alloc ([.i .i64 0] ++ List.replicate 32 (.i .i64 0)) }, { dst := none, op := .storeN 33 (.t 3) (.t 14) }]
def index_Fix_c6 : ACode := .ops index_Fix_o4
def index_Fix_o5 : List AOper := [{ dst := some 15, op := .loadN 33 (.t 1) }, { dst := some 16, op := .call 181 [(.t 15)] }, { dst := some 17, op := .mv (.v (.c (.i .i64 0))) }]
def index_Fix_c7 : ACode := .ops index_Fix_o5
def index_Fix_o6 : List AOper := [{ dst := some 18, op := .bin .lss (.t 17) (.t 16) }]
def index_Fix_c8 : ACode := .ops index_Fix_o6
def index_Fix_c9 : ACode := .cond (.t 18) .skip (.exit 0)
def index_Fix_o7 : List AOper := [{ dst := some 19, op := .mv (.t 17) }, { dst := some 4, op := .mv (.t 19) }]
def index_Fix_c10 : ACode := .ops index_Fix_o7
def index_Fix_o8 : List AOper := [{ dst := some 20, op := .mv (.t 4) }, { dst := some 21, op := .fAddr (.t 1) 1 }, { dst := some 22, op := .iAddrA 32 1 (.t 21) (.t 20) }, { dst := some 23, op := .load1 (.t 22) }, { dst := some 5, op := .mv (.t 23) }]
def index_Fix_c11 : ACode := .ops index_Fix_o8
def index_Fix_o9 : List AOper := [{ dst := some 24, op := .mv (.t 5) }, { dst := some 25, op := .bin .eql (.t 24) (.v (.c (.i .i64 0))) }, { dst := some 26, op := .mv (.t 25) }, { dst := some 27, op := .mv (.t 5), guard := some (26, false) }, { dst := some 28, op := .call 182 [(.t 27)], guard := some (26, false) }, { dst := some 29, op := .un .not (.t 28), guard := some (26, false) }, { dst := some 30, op := .pick (.t 26) (.v (.c (.b true))) (.t 29) }]
def index_Fix_c12 : ACode := .ops index_Fix_o9
def index_Fix_c13 : ACode := .cond (.t 30) (.exit 1) .skip
def index_Fix_c14 : ACode := .seq [1, 2, 3, 4, 5, 16, 17, 30] index_Fix_c12 index_Fix_c13
def index_Fix_o10 : List AOper := [{ dst := some 31, op := .loadN 33 (.t 1) }, { dst := some 32, op := .mv (.t 4) }, { dst := some 33, op := .call 183 [(.t 31), (.t 32)] }, { dst := some 34, op := .mv (.t 33) }, { dst := some 35, op := .loadN 33 (.t 1), guard := some (34, false) }, { dst := some 36, op := .mv (.t 4), guard := some (34, false) }, { dst := some 37, op := .loadN 33 (.t 1), guard := some (34, false) }, { dst := some 38, op := .mv (.t 4), guard := some (34, false) }, { dst := some 39, op := .call 127 [(.t 37), (.t 38)], guard := some (34, false) }, { dst := some 40, op := .call 129 [(.t 35), (.t 36), (.t 39)], guard := some (34, false) }, { dst := some 41, op := .len (.t 40), guard := some (34, false) }, { dst := some 42, op := .loadN 33 (.t 1), guard := some (34, false) }, { dst := some 43, op := .mv (.t 5), guard := some (34, false) }, { dst := some 44, op := .call 184 [(.t 42), (.t 43)], guard := some (34, false) }]
def index_Fix_o11 : List AOper := [{ dst := some 45, op := .bin .eql (.t 41) (.t 44), guard := some (34, false) }, { dst := some 46, op := .pick (.t 34) (.v (.c (.b true))) (.t 45) }]
def index_Fix_c15 : ACode := .draw 0 index_Fix_o10 index_Fix_o11
def index_Fix_o12 : List AOper := [{ dst := some 47, op := .mv (.t 4) }, { dst := some 48, op := .mv (.t 5) }, { dst := some 49, op := .fAddr (.t 3) 1 }, { dst := some 50, op := .iAddrA 32 1 (.t 49) (.t 47) }, { dst := none, op := .store1 (.t 50) (.t 48) }]
def index_Fix_c16 : ACode := .ops index_Fix_o12
def index_Fix_c17 : ACode := .cond (.t 46) index_Fix_c16 .skip
def index_Fix_c18 : ACode := .seq [1, 2, 3, 4, 5, 16, 17, 46] index_Fix_c15 index_Fix_c17
def index_Fix_c19 : ACode := .seq [1, 2, 3, 4, 5, 16, 17] index_Fix_c14 index_Fix_c18
def index_Fix_c20 : ACode := .seq [1, 2, 3, 4, 5, 16, 17] index_Fix_c11 index_Fix_c19
def index_Fix_c21 : ACode := .seq [1, 2, 3, 4, 16, 17] index_Fix_c10 index_Fix_c20
def index_Fix_c22 : ACode := .block 1 index_Fix_c21
def index_Fix_o13 : List AOper := [{ dst := some 51, op := .bin .add (.t 17) (.v (.c (.i .i64 1))) }, { dst := some 17, op := .mv (.t 51) }]
def index_Fix_c23 : ACode := .ops index_Fix_o13
def index_Fix_c24 : ACode := .seq [1, 2, 3, 16, 17] index_Fix_c22 index_Fix_c23
def index_Fix_c25 : ACode := .seq [1, 2, 3, 16, 17] index_Fix_c9 index_Fix_c24
def index_Fix_c26 : ACode := .seq [1, 2, 3, 16, 17, 18] index_Fix_c8 index_Fix_c25
def index_Fix_c27 : ACode := .loop [1, 2, 3, 16, 17] index_Fix_c26
def index_Fix_c28 : ACode := .block 0 index_Fix_c27
def index_Fix_c29 : ACode := .seq [1, 2, 3, 16, 17] index_Fix_c7 index_Fix_c28
def index_Fix_o14 : List AOper := [{ dst := some 52, op := .loadN 33 (.t 3) }, { dst := none, op := .storeN 33 (.t 2) (.t 52) }]
def index_Fix_c30 : ACode := .ops index_Fix_o14
def index_Fix_c31 : ACode := .seq [2] index_Fix_c30 .ret
def index_Fix_c32 : ACode := .seq [2, 3] index_Fix_c29 index_Fix_c31
def index_Fix_c33 : ACode := .seq [1, 2, 3] index_Fix_c6 index_Fix_c32
def index_Fix_c34 : ACode := .seq [1, 2] index_Fix_c5 index_Fix_c33
def index_Fix_c35 : ACode := .seq [1, 2] index_Fix_c0 index_Fix_c34
def A_index_Fix : AFn := ⟨index_Fix_c35, [.cellN 2 33]⟩
noncomputable def E_index_Fix : Sums := disp 180 S_index_depth (disp 181 S_index_many (disp 182 S_index_fine (disp 183 S_index_first (disp 127 S_index_Bits (disp 129 S_index_Places (disp 184 S_index_count disp0))))))
noncomputable def index_Fix_c0_d (n : Nat) : SmV := smOps E_index_Fix index_Fix_o0
noncomputable def index_Fix_c1_d (n : Nat) : SmV := smDraw E_index_Fix 0 index_Fix_o1 index_Fix_o2
noncomputable def index_Fix_c2_d (n : Nat) : SmV := smOps E_index_Fix index_Fix_o3
noncomputable def index_Fix_c3_d (n : Nat) : SmV := smSeq [2] (index_Fix_c2_d n) smRet
noncomputable def index_Fix_c4_d (n : Nat) : SmV := smCond (.t 10) (index_Fix_c3_d n) smSkip
noncomputable def index_Fix_c5_d (n : Nat) : SmV := smSeq [1, 2, 10] (index_Fix_c1_d n) (index_Fix_c4_d n)
noncomputable def index_Fix_c6_d (n : Nat) : SmV := smOps E_index_Fix index_Fix_o4
noncomputable def index_Fix_c7_d (n : Nat) : SmV := smOps E_index_Fix index_Fix_o5
noncomputable def index_Fix_c8_d (n : Nat) : SmV := smOps E_index_Fix index_Fix_o6
noncomputable def index_Fix_c9_d (n : Nat) : SmV := smCond (.t 18) smSkip (smExit 0)
noncomputable def index_Fix_c10_d (n : Nat) : SmV := smOps E_index_Fix index_Fix_o7
noncomputable def index_Fix_c11_d (n : Nat) : SmV := smOps E_index_Fix index_Fix_o8
noncomputable def index_Fix_c12_d (n : Nat) : SmV := smOps E_index_Fix index_Fix_o9
noncomputable def index_Fix_c13_d (n : Nat) : SmV := smCond (.t 30) (smExit 1) smSkip
noncomputable def index_Fix_c14_d (n : Nat) : SmV := smSeq [1, 2, 3, 4, 5, 16, 17, 30] (index_Fix_c12_d n) (index_Fix_c13_d n)
noncomputable def index_Fix_c15_d (n : Nat) : SmV := smDraw E_index_Fix 0 index_Fix_o10 index_Fix_o11
noncomputable def index_Fix_c16_d (n : Nat) : SmV := smOps E_index_Fix index_Fix_o12
noncomputable def index_Fix_c17_d (n : Nat) : SmV := smCond (.t 46) (index_Fix_c16_d n) smSkip
noncomputable def index_Fix_c18_d (n : Nat) : SmV := smSeq [1, 2, 3, 4, 5, 16, 17, 46] (index_Fix_c15_d n) (index_Fix_c17_d n)
noncomputable def index_Fix_c19_d (n : Nat) : SmV := smSeq [1, 2, 3, 4, 5, 16, 17] (index_Fix_c14_d n) (index_Fix_c18_d n)
noncomputable def index_Fix_c20_d (n : Nat) : SmV := smSeq [1, 2, 3, 4, 5, 16, 17] (index_Fix_c11_d n) (index_Fix_c19_d n)
noncomputable def index_Fix_c21_d (n : Nat) : SmV := smSeq [1, 2, 3, 4, 16, 17] (index_Fix_c10_d n) (index_Fix_c20_d n)
noncomputable def index_Fix_c22_d (n : Nat) : SmV := smBlock 1 (index_Fix_c21_d n)
noncomputable def index_Fix_c23_d (n : Nat) : SmV := smOps E_index_Fix index_Fix_o13
noncomputable def index_Fix_c24_d (n : Nat) : SmV := smSeq [1, 2, 3, 16, 17] (index_Fix_c22_d n) (index_Fix_c23_d n)
noncomputable def index_Fix_c25_d (n : Nat) : SmV := smSeq [1, 2, 3, 16, 17] (index_Fix_c9_d n) (index_Fix_c24_d n)
noncomputable def index_Fix_c26_d (n : Nat) : SmV := smSeq [1, 2, 3, 16, 17, 18] (index_Fix_c8_d n) (index_Fix_c25_d n)
noncomputable def index_Fix_c27_d (n : Nat) : SmV := smLoop n [1, 2, 3, 16, 17] (index_Fix_c26_d n)
noncomputable def index_Fix_c28_d (n : Nat) : SmV := smBlock 0 (index_Fix_c27_d n)
noncomputable def index_Fix_c29_d (n : Nat) : SmV := smSeq [1, 2, 3, 16, 17] (index_Fix_c7_d n) (index_Fix_c28_d n)
noncomputable def index_Fix_c30_d (n : Nat) : SmV := smOps E_index_Fix index_Fix_o14
noncomputable def index_Fix_c31_d (n : Nat) : SmV := smSeq [2] (index_Fix_c30_d n) smRet
noncomputable def index_Fix_c32_d (n : Nat) : SmV := smSeq [2, 3] (index_Fix_c29_d n) (index_Fix_c31_d n)
noncomputable def index_Fix_c33_d (n : Nat) : SmV := smSeq [1, 2, 3] (index_Fix_c6_d n) (index_Fix_c32_d n)
noncomputable def index_Fix_c34_d (n : Nat) : SmV := smSeq [1, 2] (index_Fix_c5_d n) (index_Fix_c33_d n)
noncomputable def index_Fix_c35_d (n : Nat) : SmV := smSeq [1, 2] (index_Fix_c0_d n) (index_Fix_c34_d n)
noncomputable def index_Fix_k0 (n : Nat) : AExit → Env → Heap → OptV := fun x e h => match x with | .normal => hold ((index_Fix_c31_d n) A_index_Fix.fin (e.keep [2, 3]) h) | .exit id => A_index_Fix.fin (.exit id) e h | .ret => A_index_Fix.fin .ret e h
noncomputable def index_Fix_k1 (n : Nat) : AExit → Env → Heap → OptV := fun x e h => match x with | .exit i => bif Nat.beq i 0 then (index_Fix_k0 n) .normal e h else (index_Fix_k0 n) (.exit i) e h | .normal => (index_Fix_k0 n) .normal e h | .ret => (index_Fix_k0 n) .ret e h
noncomputable def index_Fix_l0 (n m : Nat) (x1 x2 x3 x16 x17 : Val) (h : Heap) : OptV := around (index_Fix_c26_d n) [1, 2, 3, 16, 17] (index_Fix_k1 n) m [(1, x1), (2, x2), (3, x3), (16, x16), (17, x17)] h
noncomputable def R_index_Fix (n : Nat) (args : List Val) (h : Heap) : OptV := (index_Fix_c35_d n) A_index_Fix.fin (params 0 args) h
noncomputable def index_Fix_k2 (n m : Nat) : AExit → Env → Heap → OptV := fun x e h => match x with | .normal => around (index_Fix_c26_d n) [1, 2, 3, 16, 17] (index_Fix_k1 n) m (e.keep [1, 2, 3, 16, 17]) h | .exit id => (index_Fix_k1 n) (.exit id) e h | .ret => (index_Fix_k1 n) .ret e h
noncomputable def index_Fix_j0 (n m : Nat) (x1 x2 x3 x16 x17 : Val) (h : Heap) : OptV := hold ((index_Fix_c23_d n) (index_Fix_k2 n m) [(1, x1), (2, x2), (3, x3), (16, x16), (17, x17)] h)
theorem R_index_Fix_eq (n : Nat) (a0 : Val) (h : Heap) : R_index_Fix n [a0] h = bnd (cells? a0) fun c1 => bnd (afAddr ((.c (.p h.length 0))) 0) fun v2 => bnd (aload1 (((h ++ [some (Row.mk (c1) true)]) ++ [some (Row.mk ([.i .i64 0] ++ List.replicate 32 (.i .i64 0)) true)])) v2) fun v3 => bnd (aloadN (((h ++ [some (Row.mk (c1) true)]) ++ [some (Row.mk ([.i .i64 0] ++ List.replicate 32 (.i .i64 0)) true)])) 33 ((.c (.p h.length 0)))) fun v4 => bnd (quiet (((((h ++ [some (Row.mk (c1) true)]) ++ [some (Row.mk ([.i .i64 0] ++ List.replicate 32 (.i .i64 0)) true)])) ++ [])) (S_index_depth [v4] (((((h ++ [some (Row.mk (c1) true)]) ++ [some (Row.mk ([.i .i64 0] ++ List.replicate 32 (.i .i64 0)) true)])) ++ [])))) fun p5 => bnd (abin .neq v3 p5.1) fun v6 => cnd v6 (bnd (afill ([.i .i64 0] ++ List.replicate 32 (.i .i64 0)) []) fun c7 => bnd (astoreN p5.2 33 ((.c (.p ((h ++ [some (Row.mk (c1) true)])).length 0))) ((.a c7))) fun h8 => mp (aloadN h8 33 ((.c (.p ((h ++ [some (Row.mk (c1) true)])).length 0)))) fun v => (v, h8)) (bnd (afAddr ((.c (.p h.length 0))) 0) fun v9 => bnd (aload1 p5.2 v9) fun v10 => bnd (afill ([.i .i64 0] ++ List.replicate 32 (.i .i64 0)) [(0, 1, v10)]) fun c11 => bnd (astoreN ((p5.2 ++ [some (Row.mk ([.i .i64 0] ++ List.replicate 32 (.i .i64 0)) true)])) 33 ((.c (.p p5.2.length 0))) ((.a c11))) fun h12 => bnd (aloadN h12 33 ((.c (.p h.length 0)))) fun v13 => bnd (S_index_many [v13] h12) fun p14 => index_Fix_l0 n n ((.c (.p h.length 0))) ((.c (.p ((h ++ [some (Row.mk (c1) true)])).length 0))) ((.c (.p p5.2.length 0))) p14.1 (.c (.i .i64 0)) p14.2) := by kernel_rfl
theorem index_Fix_l0_eq (n m : Nat) (x1 x2 x3 x16 x17 : Val) (h : Heap) : index_Fix_l0 n (m + 1) x1 x2 x3 x16 x17 h = bnd (abin .lss x17 x16) fun v15 => cnd v15 (bnd (afAddr x1 1) fun v16 => bnd (aiAddrA 32 1 v16 x17) fun v17 => bnd (aload1 h v17) fun v18 => bnd (abin .eql v18 (.c (.i .i64 0))) fun v19 => bnd (gd v19 false (some (v18, h)) (some (.no, h))) fun p20 => bnd (gd v19 false (bnd (S_index_fine [p20.1] p20.2) fun p21 => some (p21.1, p21.2)) (some (.no, p20.2))) fun p22 => bnd (gd v19 false (bnd (aun .not p22.1) fun v23 => some (v23, p22.2)) (some (.no, p22.2))) fun p24 => bnd (apick v19 (.c (.b true)) p24.1) fun v25 => cnd v25 (index_Fix_j0 n m x1 x2 x3 x16 x17 p24.2) (bnd (aloadN p24.2 33 x1) fun v26 => bnd (quiet ((p24.2 ++ [])) (S_index_first [v26, x17] ((p24.2 ++ [])))) fun p27 => bnd (gd p27.1 false (bnd (aloadN p24.2 33 x1) fun v28 => some (v28, p27.2)) (some (.no, p27.2))) fun p29 => bnd (gd p27.1 false (some (x17, p29.2)) (some (.no, p29.2))) fun p30 => bnd (gd p27.1 false (bnd (aloadN p24.2 33 x1) fun v31 => some (v31, p30.2)) (some (.no, p30.2))) fun p32 => bnd (gd p27.1 false (some (x17, p32.2)) (some (.no, p32.2))) fun p33 => bnd (gd p27.1 false (bnd (quiet p33.2 (S_index_Bits [p32.1, p33.1] p33.2)) fun p34 => some (p34.1, p34.2)) (some (.no, p33.2))) fun p35 => bnd (gd p27.1 false (bnd (quiet p35.2 (S_index_Places [p29.1, p30.1, p35.1] p35.2)) fun p36 => some (p36.1, p36.2)) (some (.no, p35.2))) fun p37 => bnd (gd p27.1 false (bnd (alen p37.1) fun v38 => some (v38, p37.2)) (some (.no, p37.2))) fun p39 => bnd (gd p27.1 false (bnd (aloadN p24.2 33 x1) fun v40 => some (v40, p39.2)) (some (.no, p39.2))) fun p41 => bnd (gd p27.1 false (some (v18, p41.2)) (some (.no, p41.2))) fun p42 => bnd (gd p27.1 false (bnd (quiet p42.2 (S_index_count [p41.1, p42.1] p42.2)) fun p43 => some (p43.1, p43.2)) (some (.no, p42.2))) fun p44 => bnd (gd p27.1 false (bnd (abin .eql p39.1 p44.1) fun v45 => some (v45, p44.2)) (some (.no, p44.2))) fun p46 => bnd (apick p27.1 (.c (.b true)) p46.1) fun v47 => cnd v47 (bnd (afAddr x3 1) fun v48 => bnd (aiAddrA 32 1 v48 x17) fun v49 => bnd (astore1 p46.2 v49 v18) fun h50 => index_Fix_j0 n m x1 x2 x3 x16 x17 h50) (index_Fix_j0 n m x1 x2 x3 x16 x17 p46.2))) (bnd (aloadN h 33 x3) fun v51 => bnd (astoreN h 33 x2 v51) fun h52 => mp (aloadN h52 33 x2) fun v => (v, h52)) := by kernel_rfl
theorem index_Fix_j0_eq (n m : Nat) (x1 x2 x3 x16 x17 : Val) (h : Heap) : index_Fix_j0 n m x1 x2 x3 x16 x17 h = bnd (abin .add x17 (.c (.i .i64 1))) fun v53 => index_Fix_l0 n m x1 x2 x3 x16 v53 h := by kernel_rfl
theorem K_index_Fix : FnK Try.prog 108 A_index_Fix E_index_Fix R_index_Fix := .mk' (sound1 S_index_depth_ok (sound1 S_index_many_ok (sound1 S_index_fine_ok (sound1 S_index_first_ok (sound1 S_index_Bits_ok (sound1 S_index_Places_ok (sound1 S_index_count_ok sound0))))))) Try.func108 (by kernel_rfl) (by intro n args h; kernel_rfl)
noncomputable def S_index_Fix : Fun := tidy (Lim A_index_Fix E_index_Fix)
theorem S_index_Fix_ok : SOk Try.prog 108 S_index_Fix := K_index_Fix.sok
theorem S_index_Fix_flat {n : Nat} {args : List Val} {h h2 : Heap} {v : Val} (he : R_index_Fix n args (ro h) = some (v, h2)) (hf : v.flat = true) : S_index_Fix args h = some (v, h) := K_index_Fix.flat he hf
def index_Right_o0 : List AOper := [{ dst := some 1, op := .box (.t 0) }, { dst := some 2, op := .mv (.v (.c (.b false))) }]
def index_Right_c0 : ACode := .ops index_Right_o0
def index_Right_o1 : List AOper := [{ dst := some 3, op := .fAddr (.t 1) 0 }, { dst := some 4, op := .load1 (.t 3) }, { dst := some 5, op := .bin .geq (.t 4) (.v (.c (.i .i64 0))) }, { dst := some 6, op := .mv (.t 5) }, { dst := some 7, op := .fAddr (.t 1) 0, guard := some (6, true) }, { dst := some 8, op := .load1 (.t 7), guard := some (6, true) }, { dst := some 9, op := .bin .leq (.t 8) (.v (.c (.i .i64 5))), guard := some (6, true) }, { dst := some 10, op := .pick (.t 6) (.t 9) (.v (.c (.b false))) }, { dst := some 11, op := .mv (.t 10) }, { dst := some 12, op := .loadN 33 (.t 1), guard := some (11, true) }, { dst := some 13, op := .call 108 [(.t 12)], guard := some (11, true) }, { dst := some 14, op := .loadN 33 (.t 1), guard := some (11, true) }]
def index_Right_o2 : List AOper := [{ dst := some 15, op := .eqA false ([.i .i64] ++ List.replicate 32 (.i .i64)) (.t 13) (.t 14), guard := some (11, true) }, { dst := some 16, op := .pick (.t 11) (.t 15) (.v (.c (.b false))) }, { dst := some 2, op := .mv (.t 16) }]
def index_Right_c1 : ACode := .draw 0 index_Right_o1 index_Right_o2
def index_Right_c2 : ACode := .seq [2] index_Right_c1 .ret
def index_Right_c3 : ACode := .seq [1] index_Right_c0 index_Right_c2
def A_index_Right : AFn := ⟨index_Right_c3, [.tmp 2]⟩
noncomputable def E_index_Right : Sums := disp 108 S_index_Fix disp0
noncomputable def index_Right_c0_d (n : Nat) : SmV := smOps E_index_Right index_Right_o0
noncomputable def index_Right_c1_d (n : Nat) : SmV := smDraw E_index_Right 0 index_Right_o1 index_Right_o2
noncomputable def index_Right_c2_d (n : Nat) : SmV := smSeq [2] (index_Right_c1_d n) smRet
noncomputable def index_Right_c3_d (n : Nat) : SmV := smSeq [1] (index_Right_c0_d n) (index_Right_c2_d n)
noncomputable def R_index_Right (n : Nat) (args : List Val) (h : Heap) : OptV := (index_Right_c3_d n) A_index_Right.fin (params 0 args) h
theorem R_index_Right_eq (n : Nat) (a0 : Val) (h : Heap) : R_index_Right n [a0] h = bnd (cells? a0) fun c1 => bnd (afAddr ((.c (.p h.length 0))) 0) fun v2 => bnd (aload1 ((h ++ [some (Row.mk (c1) true)])) v2) fun v3 => bnd (abin .geq v3 (.c (.i .i64 0))) fun v4 => bnd (gd v4 true (bnd (afAddr ((.c (.p h.length 0))) 0) fun v5 => some (v5, (((h ++ [some (Row.mk (c1) true)])) ++ []))) (some (.no, (((h ++ [some (Row.mk (c1) true)])) ++ [])))) fun p6 => bnd (gd v4 true (bnd (aload1 ((h ++ [some (Row.mk (c1) true)])) p6.1) fun v7 => some (v7, p6.2)) (some (.no, p6.2))) fun p8 => bnd (gd v4 true (bnd (abin .leq p8.1 (.c (.i .i64 5))) fun v9 => some (v9, p8.2)) (some (.no, p8.2))) fun p10 => bnd (apick v4 p10.1 (.c (.b false))) fun v11 => bnd (gd v11 true (bnd (aloadN ((h ++ [some (Row.mk (c1) true)])) 33 ((.c (.p h.length 0)))) fun v12 => some (v12, p10.2)) (some (.no, p10.2))) fun p13 => bnd (gd v11 true (bnd (quiet p13.2 (S_index_Fix [p13.1] p13.2)) fun p14 => some (p14.1, p14.2)) (some (.no, p13.2))) fun p15 => bnd (gd v11 true (bnd (aloadN ((h ++ [some (Row.mk (c1) true)])) 33 ((.c (.p h.length 0)))) fun v16 => some (v16, p15.2)) (some (.no, p15.2))) fun p17 => bnd (gd v11 true (bnd (aeq false ([.i .i64] ++ List.replicate 32 (.i .i64)) p15.1 p17.1) fun v18 => some (v18, p17.2)) (some (.no, p17.2))) fun p19 => bnd (apick v11 p19.1 (.c (.b false))) fun v20 => some (v20, p19.2) := by kernel_rfl
theorem K_index_Right : FnK Try.prog 109 A_index_Right E_index_Right R_index_Right := .mk' (sound1 S_index_Fix_ok sound0) Try.func109 (by kernel_rfl) (by intro n args h; kernel_rfl)
noncomputable def S_index_Right : Fun := tidy (Lim A_index_Right E_index_Right)
theorem S_index_Right_ok : SOk Try.prog 109 S_index_Right := K_index_Right.sok
theorem S_index_Right_flat {n : Nat} {args : List Val} {h h2 : Heap} {v : Val} (he : R_index_Right n args (ro h) = some (v, h2)) (hf : v.flat = true) : S_index_Right args h = some (v, h) := K_index_Right.flat he hf
def index_Set_o0 : List AOper := [{ dst := some 4, op := .box (.t 0) }, { dst := some 8, op := .alloc ([.i .i64 0] ++ List.replicate 32 (.i .i64 0)) }]
def index_Set_c0 : ACode := .ops index_Set_o0
def index_Set_o1 : List AOper := [{ dst := some 11, op := .loadN 33 (.t 4) }, { dst := some 12, op := .mv (.t 1) }, { dst := some 13, op := .mv (.t 2) }, { dst := some 14, op := .call 129 [(.t 11), (.t 12), (.t 13)] }, { dst := some 15, op := .len (.t 14) }, { dst := some 16, op := .mv (.v (.c (.i .i64 0))) }]
def index_Set_c1 : ACode := .ops index_Set_o1
def index_Set_o2 : List AOper := [{ dst := some 17, op := .bin .lss (.t 16) (.t 15) }]
def index_Set_c2 : ACode := .ops index_Set_o2
def index_Set_c3 : ACode := .cond (.t 17) .skip (.exit 0)
def index_Set_o3 : List AOper := [{ dst := some 18, op := .iAddrL 1 (.t 14) (.t 16) }, { dst := some 19, op := .load1 (.t 18) }, { dst := some 10, op := .mv (.t 19) }]
def index_Set_c4 : ACode := .ops index_Set_o3
def index_Set_o4 : List AOper := [{ dst := some 20, op := .mv (.t 10) }, { dst := some 21, op := .mv (.t 3) }, { dst := some 22, op := .fAddr (.t 4) 1 }, { dst := some 23, op := .iAddrA 32 1 (.t 22) (.t 20) }, { dst := none, op := .store1 (.t 23) (.t 21) }]
def index_Set_c5 : ACode := .ops index_Set_o4
def index_Set_c6 : ACode := .seq [3, 4, 8, 10, 14, 15, 16] index_Set_c4 index_Set_c5
def index_Set_c7 : ACode := .block 1 index_Set_c6
def index_Set_o5 : List AOper := [{ dst := some 24, op := .bin .add (.t 16) (.v (.c (.i .i64 1))) }, { dst := some 16, op := .mv (.t 24) }]
def index_Set_c8 : ACode := .ops index_Set_o5
def index_Set_c9 : ACode := .seq [3, 4, 8, 14, 15, 16] index_Set_c7 index_Set_c8
def index_Set_c10 : ACode := .seq [3, 4, 8, 14, 15, 16] index_Set_c3 index_Set_c9
def index_Set_c11 : ACode := .seq [3, 4, 8, 14, 15, 16, 17] index_Set_c2 index_Set_c10
def index_Set_c12 : ACode := .loop [3, 4, 8, 14, 15, 16] index_Set_c11
def index_Set_c13 : ACode := .block 0 index_Set_c12
def index_Set_c14 : ACode := .seq [3, 4, 8, 14, 15, 16] index_Set_c1 index_Set_c13
def index_Set_o6 : List AOper := [{ dst := some 25, op := .loadN 33 (.t 4) }, { dst := none, op := .storeN 33 (.t 8) (.t 25) }]
def index_Set_c15 : ACode := .ops index_Set_o6
def index_Set_c16 : ACode := .seq [8] index_Set_c15 .ret
def index_Set_c17 : ACode := .seq [4, 8] index_Set_c14 index_Set_c16
def index_Set_c18 : ACode := .seq [1, 2, 3, 4, 8] index_Set_c0 index_Set_c17
def A_index_Set : AFn := ⟨index_Set_c18, [.cellN 8 33]⟩
noncomputable def E_index_Set : Sums := disp 129 S_index_Places disp0
noncomputable def index_Set_c0_d (n : Nat) : SmV := smOps E_index_Set index_Set_o0
noncomputable def index_Set_c1_d (n : Nat) : SmV := smOps E_index_Set index_Set_o1
noncomputable def index_Set_c2_d (n : Nat) : SmV := smOps E_index_Set index_Set_o2
noncomputable def index_Set_c3_d (n : Nat) : SmV := smCond (.t 17) smSkip (smExit 0)
noncomputable def index_Set_c4_d (n : Nat) : SmV := smOps E_index_Set index_Set_o3
noncomputable def index_Set_c5_d (n : Nat) : SmV := smOps E_index_Set index_Set_o4
noncomputable def index_Set_c6_d (n : Nat) : SmV := smSeq [3, 4, 8, 10, 14, 15, 16] (index_Set_c4_d n) (index_Set_c5_d n)
noncomputable def index_Set_c7_d (n : Nat) : SmV := smBlock 1 (index_Set_c6_d n)
noncomputable def index_Set_c8_d (n : Nat) : SmV := smOps E_index_Set index_Set_o5
noncomputable def index_Set_c9_d (n : Nat) : SmV := smSeq [3, 4, 8, 14, 15, 16] (index_Set_c7_d n) (index_Set_c8_d n)
noncomputable def index_Set_c10_d (n : Nat) : SmV := smSeq [3, 4, 8, 14, 15, 16] (index_Set_c3_d n) (index_Set_c9_d n)
noncomputable def index_Set_c11_d (n : Nat) : SmV := smSeq [3, 4, 8, 14, 15, 16, 17] (index_Set_c2_d n) (index_Set_c10_d n)
noncomputable def index_Set_c12_d (n : Nat) : SmV := smLoop n [3, 4, 8, 14, 15, 16] (index_Set_c11_d n)
noncomputable def index_Set_c13_d (n : Nat) : SmV := smBlock 0 (index_Set_c12_d n)
noncomputable def index_Set_c14_d (n : Nat) : SmV := smSeq [3, 4, 8, 14, 15, 16] (index_Set_c1_d n) (index_Set_c13_d n)
noncomputable def index_Set_c15_d (n : Nat) : SmV := smOps E_index_Set index_Set_o6
noncomputable def index_Set_c16_d (n : Nat) : SmV := smSeq [8] (index_Set_c15_d n) smRet
noncomputable def index_Set_c17_d (n : Nat) : SmV := smSeq [4, 8] (index_Set_c14_d n) (index_Set_c16_d n)
noncomputable def index_Set_c18_d (n : Nat) : SmV := smSeq [1, 2, 3, 4, 8] (index_Set_c0_d n) (index_Set_c17_d n)
noncomputable def index_Set_k0 (n : Nat) : AExit → Env → Heap → OptV := fun x e h => match x with | .normal => hold ((index_Set_c16_d n) A_index_Set.fin (e.keep [4, 8]) h) | .exit id => A_index_Set.fin (.exit id) e h | .ret => A_index_Set.fin .ret e h
noncomputable def index_Set_k1 (n : Nat) : AExit → Env → Heap → OptV := fun x e h => match x with | .exit i => bif Nat.beq i 0 then (index_Set_k0 n) .normal e h else (index_Set_k0 n) (.exit i) e h | .normal => (index_Set_k0 n) .normal e h | .ret => (index_Set_k0 n) .ret e h
noncomputable def index_Set_l0 (n m : Nat) (x3 x4 x8 x14 x15 x16 : Val) (h : Heap) : OptV := around (index_Set_c11_d n) [3, 4, 8, 14, 15, 16] (index_Set_k1 n) m [(3, x3), (4, x4), (8, x8), (14, x14), (15, x15), (16, x16)] h
noncomputable def R_index_Set (n : Nat) (args : List Val) (h : Heap) : OptV := (index_Set_c18_d n) A_index_Set.fin (params 0 args) h
theorem R_index_Set_eq (n : Nat) (a0 a1 a2 a3 : Val) (h : Heap) : R_index_Set n [a0, a1, a2, a3] h = bnd (cells? a0) fun c1 => bnd (aloadN (((h ++ [some (Row.mk (c1) true)]) ++ [some (Row.mk ([.i .i64 0] ++ List.replicate 32 (.i .i64 0)) true)])) 33 ((.c (.p h.length 0)))) fun v2 => bnd (S_index_Places [v2, a1, a2] (((h ++ [some (Row.mk (c1) true)]) ++ [some (Row.mk ([.i .i64 0] ++ List.replicate 32 (.i .i64 0)) true)]))) fun p3 => bnd (alen p3.1) fun v4 => index_Set_l0 n n a3 ((.c (.p h.length 0))) ((.c (.p ((h ++ [some (Row.mk (c1) true)])).length 0))) p3.1 v4 (.c (.i .i64 0)) p3.2 := by kernel_rfl
theorem index_Set_l0_eq (n m : Nat) (x3 x4 x8 x14 x15 x16 : Val) (h : Heap) : index_Set_l0 n (m + 1) x3 x4 x8 x14 x15 x16 h = bnd (abin .lss x16 x15) fun v5 => cnd v5 (bnd (aiAddrL 1 x14 x16) fun v6 => bnd (aload1 h v6) fun v7 => bnd (afAddr x4 1) fun v8 => bnd (aiAddrA 32 1 v8 v7) fun v9 => bnd (astore1 h v9 x3) fun h10 => bnd (abin .add x16 (.c (.i .i64 1))) fun v11 => index_Set_l0 n m x3 x4 x8 x14 x15 v11 h10) (bnd (aloadN h 33 x4) fun v12 => bnd (astoreN h 33 x8 v12) fun h13 => mp (aloadN h13 33 x8) fun v => (v, h13)) := by kernel_rfl
theorem K_index_Set : FnK Try.prog 134 A_index_Set E_index_Set R_index_Set := .mk' (sound1 S_index_Places_ok sound0) Try.func134 (by kernel_rfl) (by intro n args h; kernel_rfl)
noncomputable def S_index_Set : Fun := tidy (Lim A_index_Set E_index_Set)
theorem S_index_Set_ok : SOk Try.prog 134 S_index_Set := K_index_Set.sok
theorem S_index_Set_flat {n : Nat} {args : List Val} {h h2 : Heap} {v : Val} (he : R_index_Set n args (ro h) = some (v, h2)) (hf : v.flat = true) : S_index_Set args h = some (v, h) := K_index_Set.flat he hf
def index_Double_o0 : List AOper := [{ dst := some 1, op := .box (.t 0) }, { dst := some 2, op := .alloc ([.i .i64 0] ++ List.replicate 32 (.i .i64 0)) }, { dst := some 3, op := .mv (.v (.c (.i .i64 0))) }]
def index_Double_c0 : ACode := .ops index_Double_o0
def index_Double_o1 : List AOper := [{ dst := some 6, op := .fAddr (.t 1) 0 }, { dst := some 7, op := .load1 (.t 6) }, { dst := some 8, op := .bin .lss (.t 7) (.v (.c (.i .i64 0))) }, { dst := some 9, op := .mv (.t 8) }, { dst := some 10, op := .fAddr (.t 1) 0, guard := some (9, false) }, { dst := some 11, op := .load1 (.t 10), guard := some (9, false) }, { dst := some 12, op := .bin .geq (.t 11) (.v (.c (.i .i64 5))), guard := some (9, false) }, { dst := some 13, op := .pick (.t 9) (.v (.c (.b true))) (.t 12) }]
def index_Double_c1 : ACode := .ops index_Double_o1
def index_Double_o2 : List AOper := [{ dst := some 14, op := .loadN 33 (.t 1) }, { dst := none, op := .storeN 33 (.t 2) (.t 14) }, { dst := some 3, op := .mv (.v (.c (.i .i64 11))) }]
def index_Double_c2 : ACode := .ops index_Double_o2
def index_Double_c3 : ACode := .seq [2, 3] index_Double_c2 .ret
def index_Double_c4 : ACode := .cond (.t 13) index_Double_c3 .skip
def index_Double_c5 : ACode := .seq [1, 2, 13] index_Double_c1 index_Double_c4
def index_Double_o3 : List AOper := [{ dst := some 15, op := .loadN 33 (.t 1) }, { dst := some 16, op := .call 181 [(.t 15)] }, { dst := some 4, op := .mv (.t 16) }]
def index_Double_c6 : ACode := .ops index_Double_o3
def index_Double_o4 : List AOper := [{ dst := some 17, op := .fAddr (.t 1) 0 }, { dst := some 18, op := .load1 (.t 17) }, { dst := some 19, op := .bin .add (.t 18) (.v (.c (.i .i64 1))) }, { dst := some 20, op := .fAddr (.t 1) 0 }, { dst := none, op := .store1 (.t 20) (.t 19) }]
def index_Double_c7 : ACode := .ops index_Double_o4
def index_Double_o5 : List AOper := [{ dst := some 21, op := .mv (.t 4) }, { dst := some 22, op := .mv (.v (.c (.i .i64 0))) }]
def index_Double_c8 : ACode := .ops index_Double_o5
def index_Double_o6 : List AOper := [{ dst := some 23, op := .bin .lss (.t 22) (.t 21) }]
def index_Double_c9 : ACode := .ops index_Double_o6
def index_Double_c10 : ACode := .cond (.t 23) .skip (.exit 0)
def index_Double_o7 : List AOper := [{ dst := some 24, op := .mv (.t 22) }, { dst := some 5, op := .mv (.t 24) }]
def index_Double_c11 : ACode := .ops index_Double_o7
def index_Double_o8 : List AOper := [{ dst := some 25, op := .mv (.t 4) }, { dst := some 26, op := .mv (.t 5) }, { dst := some 27, op := .bin .add (.t 25) (.t 26) }, { dst := some 28, op := .mv (.t 5) }, { dst := some 29, op := .fAddr (.t 1) 1 }, { dst := some 30, op := .iAddrA 32 1 (.t 29) (.t 28) }, { dst := some 31, op := .load1 (.t 30) }, { dst := some 32, op := .fAddr (.t 1) 1 }, { dst := some 33, op := .iAddrA 32 1 (.t 32) (.t 27) }, { dst := none, op := .store1 (.t 33) (.t 31) }]
def index_Double_c12 : ACode := .ops index_Double_o8
def index_Double_c13 : ACode := .seq [1, 2, 4, 5, 21, 22] index_Double_c11 index_Double_c12
def index_Double_c14 : ACode := .block 1 index_Double_c13
def index_Double_o9 : List AOper := [{ dst := some 34, op := .bin .add (.t 22) (.v (.c (.i .i64 1))) }, { dst := some 22, op := .mv (.t 34) }]
def index_Double_c15 : ACode := .ops index_Double_o9
def index_Double_c16 : ACode := .seq [1, 2, 4, 21, 22] index_Double_c14 index_Double_c15
def index_Double_c17 : ACode := .seq [1, 2, 4, 21, 22] index_Double_c10 index_Double_c16
def index_Double_c18 : ACode := .seq [1, 2, 4, 21, 22, 23] index_Double_c9 index_Double_c17
def index_Double_c19 : ACode := .loop [1, 2, 4, 21, 22] index_Double_c18
def index_Double_c20 : ACode := .block 0 index_Double_c19
def index_Double_c21 : ACode := .seq [1, 2, 4, 21, 22] index_Double_c8 index_Double_c20
def index_Double_o10 : List AOper := [{ dst := some 35, op := .loadN 33 (.t 1) }, { dst := none, op := .storeN 33 (.t 2) (.t 35) }, { dst := some 3, op := .mv (.v (.c (.i .i64 0))) }]
def index_Double_c22 : ACode := .ops index_Double_o10
def index_Double_c23 : ACode := .seq [2, 3] index_Double_c22 .ret
def index_Double_c24 : ACode := .seq [1, 2] index_Double_c21 index_Double_c23
def index_Double_c25 : ACode := .seq [1, 2, 4] index_Double_c7 index_Double_c24
def index_Double_c26 : ACode := .seq [1, 2, 4] index_Double_c6 index_Double_c25
def index_Double_c27 : ACode := .seq [1, 2] index_Double_c5 index_Double_c26
def index_Double_c28 : ACode := .seq [1, 2] index_Double_c0 index_Double_c27
def A_index_Double : AFn := ⟨index_Double_c28, [.cellN 2 33, .tmp 3]⟩
noncomputable def E_index_Double : Sums := disp 181 S_index_many disp0
noncomputable def index_Double_c0_d (n : Nat) : SmV := smOps E_index_Double index_Double_o0
noncomputable def index_Double_c1_d (n : Nat) : SmV := smOps E_index_Double index_Double_o1
noncomputable def index_Double_c2_d (n : Nat) : SmV := smOps E_index_Double index_Double_o2
noncomputable def index_Double_c3_d (n : Nat) : SmV := smSeq [2, 3] (index_Double_c2_d n) smRet
noncomputable def index_Double_c4_d (n : Nat) : SmV := smCond (.t 13) (index_Double_c3_d n) smSkip
noncomputable def index_Double_c5_d (n : Nat) : SmV := smSeq [1, 2, 13] (index_Double_c1_d n) (index_Double_c4_d n)
noncomputable def index_Double_c6_d (n : Nat) : SmV := smOps E_index_Double index_Double_o3
noncomputable def index_Double_c7_d (n : Nat) : SmV := smOps E_index_Double index_Double_o4
noncomputable def index_Double_c8_d (n : Nat) : SmV := smOps E_index_Double index_Double_o5
noncomputable def index_Double_c9_d (n : Nat) : SmV := smOps E_index_Double index_Double_o6
noncomputable def index_Double_c10_d (n : Nat) : SmV := smCond (.t 23) smSkip (smExit 0)
noncomputable def index_Double_c11_d (n : Nat) : SmV := smOps E_index_Double index_Double_o7
noncomputable def index_Double_c12_d (n : Nat) : SmV := smOps E_index_Double index_Double_o8
noncomputable def index_Double_c13_d (n : Nat) : SmV := smSeq [1, 2, 4, 5, 21, 22] (index_Double_c11_d n) (index_Double_c12_d n)
noncomputable def index_Double_c14_d (n : Nat) : SmV := smBlock 1 (index_Double_c13_d n)
noncomputable def index_Double_c15_d (n : Nat) : SmV := smOps E_index_Double index_Double_o9
noncomputable def index_Double_c16_d (n : Nat) : SmV := smSeq [1, 2, 4, 21, 22] (index_Double_c14_d n) (index_Double_c15_d n)
noncomputable def index_Double_c17_d (n : Nat) : SmV := smSeq [1, 2, 4, 21, 22] (index_Double_c10_d n) (index_Double_c16_d n)
noncomputable def index_Double_c18_d (n : Nat) : SmV := smSeq [1, 2, 4, 21, 22, 23] (index_Double_c9_d n) (index_Double_c17_d n)
noncomputable def index_Double_c19_d (n : Nat) : SmV := smLoop n [1, 2, 4, 21, 22] (index_Double_c18_d n)
noncomputable def index_Double_c20_d (n : Nat) : SmV := smBlock 0 (index_Double_c19_d n)
noncomputable def index_Double_c21_d (n : Nat) : SmV := smSeq [1, 2, 4, 21, 22] (index_Double_c8_d n) (index_Double_c20_d n)
noncomputable def index_Double_c22_d (n : Nat) : SmV := smOps E_index_Double index_Double_o10
noncomputable def index_Double_c23_d (n : Nat) : SmV := smSeq [2, 3] (index_Double_c22_d n) smRet
noncomputable def index_Double_c24_d (n : Nat) : SmV := smSeq [1, 2] (index_Double_c21_d n) (index_Double_c23_d n)
noncomputable def index_Double_c25_d (n : Nat) : SmV := smSeq [1, 2, 4] (index_Double_c7_d n) (index_Double_c24_d n)
noncomputable def index_Double_c26_d (n : Nat) : SmV := smSeq [1, 2, 4] (index_Double_c6_d n) (index_Double_c25_d n)
noncomputable def index_Double_c27_d (n : Nat) : SmV := smSeq [1, 2] (index_Double_c5_d n) (index_Double_c26_d n)
noncomputable def index_Double_c28_d (n : Nat) : SmV := smSeq [1, 2] (index_Double_c0_d n) (index_Double_c27_d n)
noncomputable def index_Double_k0 (n : Nat) : AExit → Env → Heap → OptV := fun x e h => match x with | .normal => hold ((index_Double_c23_d n) A_index_Double.fin (e.keep [1, 2]) h) | .exit id => A_index_Double.fin (.exit id) e h | .ret => A_index_Double.fin .ret e h
noncomputable def index_Double_k1 (n : Nat) : AExit → Env → Heap → OptV := fun x e h => match x with | .exit i => bif Nat.beq i 0 then (index_Double_k0 n) .normal e h else (index_Double_k0 n) (.exit i) e h | .normal => (index_Double_k0 n) .normal e h | .ret => (index_Double_k0 n) .ret e h
noncomputable def index_Double_l0 (n m : Nat) (x1 x2 x4 x21 x22 : Val) (h : Heap) : OptV := around (index_Double_c18_d n) [1, 2, 4, 21, 22] (index_Double_k1 n) m [(1, x1), (2, x2), (4, x4), (21, x21), (22, x22)] h
noncomputable def R_index_Double (n : Nat) (args : List Val) (h : Heap) : OptV := (index_Double_c28_d n) A_index_Double.fin (params 0 args) h
theorem R_index_Double_eq (n : Nat) (a0 : Val) (h : Heap) : R_index_Double n [a0] h = bnd (cells? a0) fun c1 => bnd (afAddr ((.c (.p h.length 0))) 0) fun v2 => bnd (aload1 (((h ++ [some (Row.mk (c1) true)]) ++ [some (Row.mk ([.i .i64 0] ++ List.replicate 32 (.i .i64 0)) true)])) v2) fun v3 => bnd (abin .lss v3 (.c (.i .i64 0))) fun v4 => bnd (gd v4 false (bnd (afAddr ((.c (.p h.length 0))) 0) fun v5 => some (v5, ((h ++ [some (Row.mk (c1) true)]) ++ [some (Row.mk ([.i .i64 0] ++ List.replicate 32 (.i .i64 0)) true)]))) (some (.no, ((h ++ [some (Row.mk (c1) true)]) ++ [some (Row.mk ([.i .i64 0] ++ List.replicate 32 (.i .i64 0)) true)])))) fun p6 => bnd (gd v4 false (bnd (aload1 p6.2 p6.1) fun v7 => some (v7, p6.2)) (some (.no, p6.2))) fun p8 => bnd (gd v4 false (bnd (abin .geq p8.1 (.c (.i .i64 5))) fun v9 => some (v9, p8.2)) (some (.no, p8.2))) fun p10 => bnd (apick v4 (.c (.b true)) p10.1) fun v11 => cnd v11 (bnd (aloadN p10.2 33 ((.c (.p h.length 0)))) fun v12 => bnd (astoreN p10.2 33 ((.c (.p ((h ++ [some (Row.mk (c1) true)])).length 0))) v12) fun h13 => tupN [aloadN h13 33 ((.c (.p ((h ++ [some (Row.mk (c1) true)])).length 0))), some (.c (.i .i64 11))] h13) (bnd (aloadN p10.2 33 ((.c (.p h.length 0)))) fun v14 => bnd (S_index_many [v14] p10.2) fun p15 => bnd (afAddr ((.c (.p h.length 0))) 0) fun v16 => bnd (aload1 p15.2 v16) fun v17 => bnd (abin .add v17 (.c (.i .i64 1))) fun v18 => bnd (afAddr ((.c (.p h.length 0))) 0) fun v19 => bnd (astore1 p15.2 v19 v18) fun h20 => index_Double_l0 n n ((.c (.p h.length 0))) ((.c (.p ((h ++ [some (Row.mk (c1) true)])).length 0))) p15.1 p15.1 (.c (.i .i64 0)) h20) := by kernel_rfl
theorem index_Double_l0_eq (n m : Nat) (x1 x2 x4 x21 x22 : Val) (h : Heap) : index_Double_l0 n (m + 1) x1 x2 x4 x21 x22 h = bnd (abin .lss x22 x21) fun v21 => cnd v21 (bnd (abin .add x4 x22) fun v22 => bnd (afAddr x1 1) fun v23 => bnd (aiAddrA 32 1 v23 x22) fun v24 => bnd (aload1 h v24) fun v25 => bnd (afAddr x1 1) fun v26 => bnd (aiAddrA 32 1 v26 v22) fun v27 => bnd (astore1 h v27 v25) fun h28 => bnd (abin .add x22 (.c (.i .i64 1))) fun v29 => index_Double_l0 n m x1 x2 x4 x21 v29 h28) (bnd (aloadN h 33 x1) fun v30 => bnd (astoreN h 33 x2 v30) fun h31 => tupN [aloadN h31 33 x2, some (.c (.i .i64 0))] h31) := by kernel_rfl
theorem K_index_Double : FnK Try.prog 145 A_index_Double E_index_Double R_index_Double := .mk' (sound1 S_index_many_ok sound0) Try.func145 (by kernel_rfl) (by intro n args h; kernel_rfl)
noncomputable def S_index_Double : Fun := tidy (Lim A_index_Double E_index_Double)
theorem S_index_Double_ok : SOk Try.prog 145 S_index_Double := K_index_Double.sok
theorem S_index_Double_flat {n : Nat} {args : List Val} {h h2 : Heap} {v : Val} (he : R_index_Double n args (ro h) = some (v, h2)) (hf : v.flat = true) : S_index_Double args h = some (v, h) := K_index_Double.flat he hf
def index_Place_o0 : List AOper := [{ dst := some 2, op := .box (.t 0) }, { dst := some 4, op := .mv (.v (.c (.i .i64 0))) }]
def index_Place_c0 : ACode := .ops index_Place_o0
def index_Place_o1 : List AOper := [{ dst := some 5, op := .mv (.t 1) }, { dst := some 6, op := .loadN 33 (.t 2) }, { dst := some 7, op := .call 180 [(.t 6)] }, { dst := some 8, op := .call 135 [(.t 5), (.t 7)] }, { dst := some 4, op := .mv (.t 8) }]
def index_Place_c1 : ACode := .ops index_Place_o1
def index_Place_c2 : ACode := .seq [4] index_Place_c1 .ret
def index_Place_c3 : ACode := .seq [1, 2] index_Place_c0 index_Place_c2
def A_index_Place : AFn := ⟨index_Place_c3, [.tmp 4]⟩
noncomputable def E_index_Place : Sums := disp 180 S_index_depth (disp 135 S_mix_Low disp0)
noncomputable def index_Place_c0_d (n : Nat) : SmV := smOps E_index_Place index_Place_o0
noncomputable def index_Place_c1_d (n : Nat) : SmV := smOps E_index_Place index_Place_o1
noncomputable def index_Place_c2_d (n : Nat) : SmV := smSeq [4] (index_Place_c1_d n) smRet
noncomputable def index_Place_c3_d (n : Nat) : SmV := smSeq [1, 2] (index_Place_c0_d n) (index_Place_c2_d n)
noncomputable def R_index_Place (n : Nat) (args : List Val) (h : Heap) : OptV := (index_Place_c3_d n) A_index_Place.fin (params 0 args) h
theorem R_index_Place_eq (n : Nat) (a0 a1 : Val) (h : Heap) : R_index_Place n [a0, a1] h = bnd (cells? a0) fun c1 => bnd (aloadN ((h ++ [some (Row.mk (c1) true)])) 33 ((.c (.p h.length 0)))) fun v2 => bnd (S_index_depth [v2] ((h ++ [some (Row.mk (c1) true)]))) fun p3 => bnd (S_mix_Low [a1, p3.1] p3.2) fun p4 => some (p4.1, p4.2) := by kernel_rfl
theorem K_index_Place : FnK Try.prog 124 A_index_Place E_index_Place R_index_Place := .mk' (sound1 S_index_depth_ok (sound1 S_mix_Low_ok sound0)) Try.func124 (by kernel_rfl) (by intro n args h; kernel_rfl)
noncomputable def S_index_Place : Fun := tidy (Lim A_index_Place E_index_Place)
theorem S_index_Place_ok : SOk Try.prog 124 S_index_Place := K_index_Place.sok
theorem S_index_Place_flat {n : Nat} {args : List Val} {h h2 : Heap} {v : Val} (he : R_index_Place n args (ro h) = some (v, h2)) (hf : v.flat = true) : S_index_Place args h = some (v, h) := K_index_Place.flat he hf
def index_Buckets_o0 : List AOper := [{ dst := some 1, op := .box (.t 0) }, { dst := some 2, op := .nilrow 1 }]
def index_Buckets_c0 : ACode := .ops index_Buckets_o0
def index_Buckets_o1 : List AOper := [{ dst := some 3, op := .nilrow 1 }]
def index_Buckets_c1 : ACode := .ops index_Buckets_o1
def index_Buckets_o2 : List AOper := [{ dst := some 5, op := .loadN 33 (.t 1) }, { dst := some 6, op := .call 181 [(.t 5)] }, { dst := some 7, op := .mv (.v (.c (.i .i64 0))) }]
def index_Buckets_c2 : ACode := .ops index_Buckets_o2
def index_Buckets_o3 : List AOper := [{ dst := some 8, op := .bin .lss (.t 7) (.t 6) }]
def index_Buckets_c3 : ACode := .ops index_Buckets_o3
def index_Buckets_c4 : ACode := .cond (.t 8) .skip (.exit 0)
def index_Buckets_o4 : List AOper := [{ dst := some 9, op := .mv (.t 7) }, { dst := some 4, op := .mv (.t 9) }]
def index_Buckets_c5 : ACode := .ops index_Buckets_o4
def index_Buckets_o5 : List AOper := [{ dst := some 10, op := .mv (.t 4) }, { dst := some 11, op := .fAddr (.t 1) 1 }, { dst := some 12, op := .iAddrA 32 1 (.t 11) (.t 10) }, { dst := some 13, op := .load1 (.t 12) }, { dst := some 14, op := .bin .neq (.t 13) (.v (.c (.i .i64 0))) }, { dst := some 15, op := .mv (.t 14) }, { dst := some 16, op := .loadN 33 (.t 1), guard := some (15, true) }, { dst := some 17, op := .mv (.t 4), guard := some (15, true) }, { dst := some 18, op := .call 183 [(.t 16), (.t 17)], guard := some (15, true) }, { dst := some 19, op := .pick (.t 15) (.t 18) (.v (.c (.b false))) }]
def index_Buckets_c6 : ACode := .ops index_Buckets_o5
def index_Buckets_o6 : List AOper := [{ dst := some 20, op := .mv (.t 3) }, { dst := some 21, op := .mv (.t 4) }, { dst := some 22, op := .fAddr (.t 1) 1 }, { dst := some 23, op := .iAddrA 32 1 (.t 22) (.t 21) }, { dst := some 24, op := .load1 (.t 23) }, { dst := some 25, op := .buildSl 1 1 ([.i .i64 0]) [(0, 1, (.t 24))] }, { dst := some 26, op := .app 1 (.t 20) (.t 25) }, { dst := some 3, op := .mv (.t 26) }]
def index_Buckets_c7 : ACode := .ops index_Buckets_o6
def index_Buckets_c8 : ACode := .cond (.t 19) index_Buckets_c7 .skip
def index_Buckets_c9 : ACode := .seq [1, 3, 4, 6, 7, 19] index_Buckets_c6 index_Buckets_c8
def index_Buckets_c10 : ACode := .seq [1, 3, 4, 6, 7] index_Buckets_c5 index_Buckets_c9
def index_Buckets_c11 : ACode := .block 1 index_Buckets_c10
def index_Buckets_o7 : List AOper := [{ dst := some 27, op := .bin .add (.t 7) (.v (.c (.i .i64 1))) }, { dst := some 7, op := .mv (.t 27) }]
def index_Buckets_c12 : ACode := .ops index_Buckets_o7
def index_Buckets_c13 : ACode := .seq [1, 3, 6, 7] index_Buckets_c11 index_Buckets_c12
def index_Buckets_c14 : ACode := .seq [1, 3, 6, 7] index_Buckets_c4 index_Buckets_c13
def index_Buckets_c15 : ACode := .seq [1, 3, 6, 7, 8] index_Buckets_c3 index_Buckets_c14
def index_Buckets_c16 : ACode := .loop [1, 3, 6, 7] index_Buckets_c15
def index_Buckets_c17 : ACode := .block 0 index_Buckets_c16
def index_Buckets_c18 : ACode := .seq [1, 3, 6, 7] index_Buckets_c2 index_Buckets_c17
def index_Buckets_o8 : List AOper := [{ dst := some 28, op := .mv (.t 3) }, { dst := some 2, op := .mv (.t 28) }]
def index_Buckets_c19 : ACode := .ops index_Buckets_o8
def index_Buckets_c20 : ACode := .seq [2] index_Buckets_c19 .ret
def index_Buckets_c21 : ACode := .seq [3] index_Buckets_c18 index_Buckets_c20
def index_Buckets_c22 : ACode := .seq [1, 3] index_Buckets_c1 index_Buckets_c21
def index_Buckets_c23 : ACode := .seq [1] index_Buckets_c0 index_Buckets_c22
def A_index_Buckets : AFn := ⟨index_Buckets_c23, [.tmp 2]⟩
noncomputable def E_index_Buckets : Sums := disp 181 S_index_many (disp 183 S_index_first disp0)
noncomputable def index_Buckets_c0_d (n : Nat) : SmV := smOps E_index_Buckets index_Buckets_o0
noncomputable def index_Buckets_c1_d (n : Nat) : SmV := smOps E_index_Buckets index_Buckets_o1
noncomputable def index_Buckets_c2_d (n : Nat) : SmV := smOps E_index_Buckets index_Buckets_o2
noncomputable def index_Buckets_c3_d (n : Nat) : SmV := smOps E_index_Buckets index_Buckets_o3
noncomputable def index_Buckets_c4_d (n : Nat) : SmV := smCond (.t 8) smSkip (smExit 0)
noncomputable def index_Buckets_c5_d (n : Nat) : SmV := smOps E_index_Buckets index_Buckets_o4
noncomputable def index_Buckets_c6_d (n : Nat) : SmV := smOps E_index_Buckets index_Buckets_o5
noncomputable def index_Buckets_c7_d (n : Nat) : SmV := smOps E_index_Buckets index_Buckets_o6
noncomputable def index_Buckets_c8_d (n : Nat) : SmV := smCond (.t 19) (index_Buckets_c7_d n) smSkip
noncomputable def index_Buckets_c9_d (n : Nat) : SmV := smSeq [1, 3, 4, 6, 7, 19] (index_Buckets_c6_d n) (index_Buckets_c8_d n)
noncomputable def index_Buckets_c10_d (n : Nat) : SmV := smSeq [1, 3, 4, 6, 7] (index_Buckets_c5_d n) (index_Buckets_c9_d n)
noncomputable def index_Buckets_c11_d (n : Nat) : SmV := smBlock 1 (index_Buckets_c10_d n)
noncomputable def index_Buckets_c12_d (n : Nat) : SmV := smOps E_index_Buckets index_Buckets_o7
noncomputable def index_Buckets_c13_d (n : Nat) : SmV := smSeq [1, 3, 6, 7] (index_Buckets_c11_d n) (index_Buckets_c12_d n)
noncomputable def index_Buckets_c14_d (n : Nat) : SmV := smSeq [1, 3, 6, 7] (index_Buckets_c4_d n) (index_Buckets_c13_d n)
noncomputable def index_Buckets_c15_d (n : Nat) : SmV := smSeq [1, 3, 6, 7, 8] (index_Buckets_c3_d n) (index_Buckets_c14_d n)
noncomputable def index_Buckets_c16_d (n : Nat) : SmV := smLoop n [1, 3, 6, 7] (index_Buckets_c15_d n)
noncomputable def index_Buckets_c17_d (n : Nat) : SmV := smBlock 0 (index_Buckets_c16_d n)
noncomputable def index_Buckets_c18_d (n : Nat) : SmV := smSeq [1, 3, 6, 7] (index_Buckets_c2_d n) (index_Buckets_c17_d n)
noncomputable def index_Buckets_c19_d (n : Nat) : SmV := smOps E_index_Buckets index_Buckets_o8
noncomputable def index_Buckets_c20_d (n : Nat) : SmV := smSeq [2] (index_Buckets_c19_d n) smRet
noncomputable def index_Buckets_c21_d (n : Nat) : SmV := smSeq [3] (index_Buckets_c18_d n) (index_Buckets_c20_d n)
noncomputable def index_Buckets_c22_d (n : Nat) : SmV := smSeq [1, 3] (index_Buckets_c1_d n) (index_Buckets_c21_d n)
noncomputable def index_Buckets_c23_d (n : Nat) : SmV := smSeq [1] (index_Buckets_c0_d n) (index_Buckets_c22_d n)
noncomputable def index_Buckets_k0 (n : Nat) : AExit → Env → Heap → OptV := fun x e h => match x with | .normal => hold ((index_Buckets_c20_d n) A_index_Buckets.fin (e.keep [3]) h) | .exit id => A_index_Buckets.fin (.exit id) e h | .ret => A_index_Buckets.fin .ret e h
noncomputable def index_Buckets_k1 (n : Nat) : AExit → Env → Heap → OptV := fun x e h => match x with | .exit i => bif Nat.beq i 0 then (index_Buckets_k0 n) .normal e h else (index_Buckets_k0 n) (.exit i) e h | .normal => (index_Buckets_k0 n) .normal e h | .ret => (index_Buckets_k0 n) .ret e h
noncomputable def index_Buckets_l0 (n m : Nat) (x1 x3 x6 x7 : Val) (h : Heap) : OptV := around (index_Buckets_c15_d n) [1, 3, 6, 7] (index_Buckets_k1 n) m [(1, x1), (3, x3), (6, x6), (7, x7)] h
noncomputable def R_index_Buckets (n : Nat) (args : List Val) (h : Heap) : OptV := (index_Buckets_c23_d n) A_index_Buckets.fin (params 0 args) h
noncomputable def index_Buckets_k2 (n m : Nat) : AExit → Env → Heap → OptV := fun x e h => match x with | .normal => around (index_Buckets_c15_d n) [1, 3, 6, 7] (index_Buckets_k1 n) m (e.keep [1, 3, 6, 7]) h | .exit id => (index_Buckets_k1 n) (.exit id) e h | .ret => (index_Buckets_k1 n) .ret e h
noncomputable def index_Buckets_j0 (n m : Nat) (x1 x3 x6 x7 : Val) (h : Heap) : OptV := hold ((index_Buckets_c12_d n) (index_Buckets_k2 n m) [(1, x1), (3, x3), (6, x6), (7, x7)] h)
theorem R_index_Buckets_eq (n : Nat) (a0 : Val) (h : Heap) : R_index_Buckets n [a0] h = bnd (cells? a0) fun c1 => bnd (aloadN ((((h ++ [some (Row.mk (c1) true)]) ++ [some (Row.mk ([]) true)]) ++ [some (Row.mk ([]) true)])) 33 ((.c (.p h.length 0)))) fun v2 => bnd (S_index_many [v2] ((((h ++ [some (Row.mk (c1) true)]) ++ [some (Row.mk ([]) true)]) ++ [some (Row.mk ([]) true)]))) fun p3 => index_Buckets_l0 n n ((.c (.p h.length 0))) ((.c (.sl (((h ++ [some (Row.mk (c1) true)]) ++ [some (Row.mk ([]) true)])).length 0 0 1))) p3.1 (.c (.i .i64 0)) p3.2 := by kernel_rfl
theorem index_Buckets_l0_eq (n m : Nat) (x1 x3 x6 x7 : Val) (h : Heap) : index_Buckets_l0 n (m + 1) x1 x3 x6 x7 h = bnd (abin .lss x7 x6) fun v4 => cnd v4 (bnd (afAddr x1 1) fun v5 => bnd (aiAddrA 32 1 v5 x7) fun v6 => bnd (aload1 h v6) fun v7 => bnd (abin .neq v7 (.c (.i .i64 0))) fun v8 => bnd (gd v8 true (bnd (aloadN h 33 x1) fun v9 => some (v9, h)) (some (.no, h))) fun p10 => bnd (gd v8 true (some (x7, p10.2)) (some (.no, p10.2))) fun p11 => bnd (gd v8 true (bnd (S_index_first [p10.1, p11.1] p11.2) fun p12 => some (p12.1, p12.2)) (some (.no, p11.2))) fun p13 => bnd (apick v8 p13.1 (.c (.b false))) fun v14 => cnd v14 (bnd (afAddr x1 1) fun v15 => bnd (aiAddrA 32 1 v15 x7) fun v16 => bnd (aload1 p13.2 v16) fun v17 => bnd (afill ([.i .i64 0]) [(0, 1, v17)]) fun c18 => bnd (aapp ((p13.2 ++ [some (Row.mk (c18) true)])) 1 x3 ((.c (.sl p13.2.length 0 1 1)))) fun p19 => index_Buckets_j0 n m x1 p19.1 x6 x7 p19.2) (index_Buckets_j0 n m x1 x3 x6 x7 p13.2)) (some (x3, h)) := by kernel_rfl
theorem index_Buckets_j0_eq (n m : Nat) (x1 x3 x6 x7 : Val) (h : Heap) : index_Buckets_j0 n m x1 x3 x6 x7 h = bnd (abin .add x7 (.c (.i .i64 1))) fun v20 => index_Buckets_l0 n m x1 x3 x6 v20 h := by kernel_rfl
theorem K_index_Buckets : FnK Try.prog 131 A_index_Buckets E_index_Buckets R_index_Buckets := .mk' (sound1 S_index_many_ok (sound1 S_index_first_ok sound0)) Try.func131 (by kernel_rfl) (by intro n args h; kernel_rfl)
noncomputable def S_index_Buckets : Fun := tidy (Lim A_index_Buckets E_index_Buckets)
theorem S_index_Buckets_ok : SOk Try.prog 131 S_index_Buckets := K_index_Buckets.sok
theorem S_index_Buckets_low {n : Nat} {args : List Val} {h h2 : Heap} {v : Val} (he : R_index_Buckets n args (ro h) = some (v, h2)) (hf : v.low h.length = true) : S_index_Buckets args h = some (v, h) := K_index_Buckets.low he hf
theorem S_index_Buckets_out {n : Nat} {args : List Val} {h h2 : Heap} {v : Val} {sz k : Nat} {cs : List Cell} (he : R_index_Buckets n args (ro h) = some (v, h2)) (ho : Out h.length h2 v sz k cs) (hf : flats cs = true) : S_index_Buckets args h = some (.c (.sl h.length 0 k sz), h ++ [some ⟨cs, true⟩]) := K_index_Buckets.out he ho hf
def index_Put_o0 : List AOper := [{ dst := some 1, op := .box (.t 0) }, { dst := some 2, op := .alloc (List.replicate 256 (.i .u8 0)) }, { dst := some 3, op := .mv (.v (.c (.i .i64 0))) }]
def index_Put_c0 : ACode := .ops index_Put_o0
def index_Put_o1 : List AOper := [{ dst := some 7, op := .fAddr (.t 1) 0 }, { dst := some 8, op := .load1 (.t 7) }, { dst := some 9, op := .loadN 33 (.t 1) }, { dst := some 10, op := .call 180 [(.t 9)] }]
def index_Put_o2 : List AOper := [{ dst := some 11, op := .bin .neq (.t 8) (.t 10) }]
def index_Put_c1 : ACode := .draw 0 index_Put_o1 index_Put_o2
def index_Put_o3 : List AOper := [{ dst := some 12, op := .build (List.replicate 256 (.i .u8 0)) [] }, { dst := none, op := .storeN 256 (.t 2) (.t 12) }, { dst := some 3, op := .mv (.v (.c (.i .i64 1))) }]
def index_Put_c2 : ACode := .ops index_Put_o3
def index_Put_c3 : ACode := .seq [2, 3] index_Put_c2 .ret
def index_Put_c4 : ACode := .cond (.t 11) index_Put_c3 .skip
def index_Put_c5 : ACode := .seq [1, 2, 11] index_Put_c1 index_Put_c4
def index_Put_o4 : List AOper := [{ dst := some 13, op := .buildSl 1 4 ([.i .u8 0, .i .u8 0, .i .u8 0, .i .u8 0]) [(0, 1, (.v (.c (.i .u8 105)))), (1, 1, (.v (.c (.i .u8 100)))), (2, 1, (.v (.c (.i .u8 120)))), (3, 1, (.v (.c (.i .u8 33))))], slot := some 0 }, { dst := some 14, op := .mark (.t 13) }, { dst := some 15, op := .call 82 [(.t 14)] }, { dst := some 16, op := .fAddr (.t 1) 0 }, { dst := some 17, op := .load1 (.t 16) }, { dst := some 18, op := .call 58 [(.t 15), (.v (.c (.i .i64 4))), (.v (.c (.i .i64 1))), (.t 17)] }, { dst := some 4, op := .alloc (List.replicate 256 (.i .u8 0)), slot := some 1 }]
def index_Put_o5 : List AOper := [{ dst := none, op := .storeN 256 (.t 4) (.t 18) }]
def index_Put_c6 : ACode := .draw 2 index_Put_o4 index_Put_o5
def index_Put_o6 : List AOper := [{ dst := some 19, op := .fAddr (.t 1) 1 }, { dst := some 20, op := .loadN 32 (.t 19) }, { dst := some 21, op := .mv (.v (.c (.i .i64 0))) }]
def index_Put_c7 : ACode := .ops index_Put_o6
def index_Put_o7 : List AOper := [{ dst := some 22, op := .bin .lss (.t 21) (.v (.c (.i .i64 32))) }]
def index_Put_c8 : ACode := .ops index_Put_o7
def index_Put_c9 : ACode := .cond (.t 22) .skip (.exit 0)
def index_Put_o8 : List AOper := [{ dst := some 23, op := .mv (.t 21) }, { dst := some 24, op := .idxA1 32 (.t 20) (.t 21) }, { dst := some 5, op := .mv (.t 23) }, { dst := some 6, op := .mv (.t 24) }]
def index_Put_c10 : ACode := .ops index_Put_o8
def index_Put_o9 : List AOper := [{ dst := some 25, op := .mv (.t 6) }, { dst := some 26, op := .call 182 [(.t 25)] }, { dst := some 27, op := .un .not (.t 26) }]
def index_Put_c11 : ACode := .ops index_Put_o9
def index_Put_o10 : List AOper := [{ dst := some 28, op := .build (List.replicate 256 (.i .u8 0)) [] }, { dst := none, op := .storeN 256 (.t 2) (.t 28) }, { dst := some 3, op := .mv (.v (.c (.i .i64 1))) }]
def index_Put_c12 : ACode := .ops index_Put_o10
def index_Put_c13 : ACode := .seq [2, 3] index_Put_c12 .ret
def index_Put_c14 : ACode := .cond (.t 27) index_Put_c13 .skip
def index_Put_c15 : ACode := .seq [2, 4, 5, 6, 20, 21, 27] index_Put_c11 index_Put_c14
def index_Put_o11 : List AOper := [{ dst := some 29, op := .loadN 256 (.t 4) }, { dst := some 30, op := .mv (.t 5) }, { dst := some 31, op := .bin .mul (.v (.c (.i .i64 2))) (.t 30) }, { dst := some 32, op := .bin .add (.v (.c (.i .i64 32))) (.t 31) }, { dst := some 33, op := .mv (.t 6) }, { dst := some 34, op := .call 58 [(.t 29), (.t 32), (.v (.c (.i .i64 2))), (.t 33)] }, { dst := none, op := .storeN 256 (.t 4) (.t 34) }]
def index_Put_c16 : ACode := .ops index_Put_o11
def index_Put_c17 : ACode := .seq [2, 4, 5, 6, 20, 21] index_Put_c15 index_Put_c16
def index_Put_c18 : ACode := .seq [2, 4, 5, 6, 20, 21] index_Put_c10 index_Put_c17
def index_Put_c19 : ACode := .block 1 index_Put_c18
def index_Put_o12 : List AOper := [{ dst := some 35, op := .bin .add (.t 21) (.v (.c (.i .i64 1))) }, { dst := some 21, op := .mv (.t 35) }]
def index_Put_c20 : ACode := .ops index_Put_o12
def index_Put_c21 : ACode := .seq [2, 4, 20, 21] index_Put_c19 index_Put_c20
def index_Put_c22 : ACode := .seq [2, 4, 20, 21] index_Put_c9 index_Put_c21
def index_Put_c23 : ACode := .seq [2, 4, 20, 21, 22] index_Put_c8 index_Put_c22
def index_Put_c24 : ACode := .loop [2, 4, 20, 21] index_Put_c23
def index_Put_c25 : ACode := .block 0 index_Put_c24
def index_Put_c26 : ACode := .seq [2, 4, 20, 21] index_Put_c7 index_Put_c25
def index_Put_o13 : List AOper := [{ dst := some 36, op := .loadN 256 (.t 4) }, { dst := none, op := .storeN 256 (.t 2) (.t 36) }, { dst := some 3, op := .mv (.v (.c (.i .i64 0))) }]
def index_Put_c27 : ACode := .ops index_Put_o13
def index_Put_c28 : ACode := .seq [2, 3] index_Put_c27 .ret
def index_Put_c29 : ACode := .seq [2, 4] index_Put_c26 index_Put_c28
def index_Put_c30 : ACode := .seq [1, 2, 4] index_Put_c6 index_Put_c29
def index_Put_c31 : ACode := .seq [1, 2] index_Put_c5 index_Put_c30
def index_Put_c32 : ACode := .seq [1, 2] index_Put_c0 index_Put_c31
def A_index_Put : AFn := ⟨index_Put_c32, [.cellN 2 256, .tmp 3]⟩
noncomputable def E_index_Put : Sums := disp 180 S_index_depth (disp 82 S_num_Of (disp 58 S_num_With (disp 182 S_index_fine disp0)))
noncomputable def index_Put_c0_d (n : Nat) : SmV := smOps E_index_Put index_Put_o0
noncomputable def index_Put_c1_d (n : Nat) : SmV := smDraw E_index_Put 0 index_Put_o1 index_Put_o2
noncomputable def index_Put_c2_d (n : Nat) : SmV := smOps E_index_Put index_Put_o3
noncomputable def index_Put_c3_d (n : Nat) : SmV := smSeq [2, 3] (index_Put_c2_d n) smRet
noncomputable def index_Put_c4_d (n : Nat) : SmV := smCond (.t 11) (index_Put_c3_d n) smSkip
noncomputable def index_Put_c5_d (n : Nat) : SmV := smSeq [1, 2, 11] (index_Put_c1_d n) (index_Put_c4_d n)
noncomputable def index_Put_c6_d (n : Nat) : SmV := smDraw E_index_Put 2 index_Put_o4 index_Put_o5
noncomputable def index_Put_c7_d (n : Nat) : SmV := smOps E_index_Put index_Put_o6
noncomputable def index_Put_c8_d (n : Nat) : SmV := smOps E_index_Put index_Put_o7
noncomputable def index_Put_c9_d (n : Nat) : SmV := smCond (.t 22) smSkip (smExit 0)
noncomputable def index_Put_c10_d (n : Nat) : SmV := smOps E_index_Put index_Put_o8
noncomputable def index_Put_c11_d (n : Nat) : SmV := smOps E_index_Put index_Put_o9
noncomputable def index_Put_c12_d (n : Nat) : SmV := smOps E_index_Put index_Put_o10
noncomputable def index_Put_c13_d (n : Nat) : SmV := smSeq [2, 3] (index_Put_c12_d n) smRet
noncomputable def index_Put_c14_d (n : Nat) : SmV := smCond (.t 27) (index_Put_c13_d n) smSkip
noncomputable def index_Put_c15_d (n : Nat) : SmV := smSeq [2, 4, 5, 6, 20, 21, 27] (index_Put_c11_d n) (index_Put_c14_d n)
noncomputable def index_Put_c16_d (n : Nat) : SmV := smOps E_index_Put index_Put_o11
noncomputable def index_Put_c17_d (n : Nat) : SmV := smSeq [2, 4, 5, 6, 20, 21] (index_Put_c15_d n) (index_Put_c16_d n)
noncomputable def index_Put_c18_d (n : Nat) : SmV := smSeq [2, 4, 5, 6, 20, 21] (index_Put_c10_d n) (index_Put_c17_d n)
noncomputable def index_Put_c19_d (n : Nat) : SmV := smBlock 1 (index_Put_c18_d n)
noncomputable def index_Put_c20_d (n : Nat) : SmV := smOps E_index_Put index_Put_o12
noncomputable def index_Put_c21_d (n : Nat) : SmV := smSeq [2, 4, 20, 21] (index_Put_c19_d n) (index_Put_c20_d n)
noncomputable def index_Put_c22_d (n : Nat) : SmV := smSeq [2, 4, 20, 21] (index_Put_c9_d n) (index_Put_c21_d n)
noncomputable def index_Put_c23_d (n : Nat) : SmV := smSeq [2, 4, 20, 21, 22] (index_Put_c8_d n) (index_Put_c22_d n)
noncomputable def index_Put_c24_d (n : Nat) : SmV := smLoop n [2, 4, 20, 21] (index_Put_c23_d n)
noncomputable def index_Put_c25_d (n : Nat) : SmV := smBlock 0 (index_Put_c24_d n)
noncomputable def index_Put_c26_d (n : Nat) : SmV := smSeq [2, 4, 20, 21] (index_Put_c7_d n) (index_Put_c25_d n)
noncomputable def index_Put_c27_d (n : Nat) : SmV := smOps E_index_Put index_Put_o13
noncomputable def index_Put_c28_d (n : Nat) : SmV := smSeq [2, 3] (index_Put_c27_d n) smRet
noncomputable def index_Put_c29_d (n : Nat) : SmV := smSeq [2, 4] (index_Put_c26_d n) (index_Put_c28_d n)
noncomputable def index_Put_c30_d (n : Nat) : SmV := smSeq [1, 2, 4] (index_Put_c6_d n) (index_Put_c29_d n)
noncomputable def index_Put_c31_d (n : Nat) : SmV := smSeq [1, 2] (index_Put_c5_d n) (index_Put_c30_d n)
noncomputable def index_Put_c32_d (n : Nat) : SmV := smSeq [1, 2] (index_Put_c0_d n) (index_Put_c31_d n)
noncomputable def index_Put_k0 (n : Nat) : AExit → Env → Heap → OptV := fun x e h => match x with | .normal => hold ((index_Put_c28_d n) A_index_Put.fin (e.keep [2, 4]) h) | .exit id => A_index_Put.fin (.exit id) e h | .ret => A_index_Put.fin .ret e h
noncomputable def index_Put_k1 (n : Nat) : AExit → Env → Heap → OptV := fun x e h => match x with | .exit i => bif Nat.beq i 0 then (index_Put_k0 n) .normal e h else (index_Put_k0 n) (.exit i) e h | .normal => (index_Put_k0 n) .normal e h | .ret => (index_Put_k0 n) .ret e h
noncomputable def index_Put_l0 (n m : Nat) (x2 x4 x20 x21 : Val) (h : Heap) : OptV := around (index_Put_c23_d n) [2, 4, 20, 21] (index_Put_k1 n) m [(2, x2), (4, x4), (20, x20), (21, x21)] h
noncomputable def R_index_Put (n : Nat) (args : List Val) (h : Heap) : OptV := (index_Put_c32_d n) A_index_Put.fin (params 0 args) h
theorem R_index_Put_eq (n : Nat) (a0 : Val) (h : Heap) : R_index_Put n [a0] h = bnd (cells? a0) fun c1 => bnd (afAddr ((.c (.p h.length 0))) 0) fun v2 => bnd (aload1 (((h ++ [some (Row.mk (c1) true)]) ++ [some (Row.mk (List.replicate 256 (.i .u8 0)) true)])) v2) fun v3 => bnd (aloadN (((h ++ [some (Row.mk (c1) true)]) ++ [some (Row.mk (List.replicate 256 (.i .u8 0)) true)])) 33 ((.c (.p h.length 0)))) fun v4 => bnd (quiet (((((h ++ [some (Row.mk (c1) true)]) ++ [some (Row.mk (List.replicate 256 (.i .u8 0)) true)])) ++ [])) (S_index_depth [v4] (((((h ++ [some (Row.mk (c1) true)]) ++ [some (Row.mk (List.replicate 256 (.i .u8 0)) true)])) ++ [])))) fun p5 => bnd (abin .neq v3 p5.1) fun v6 => cnd v6 (bnd (afill (List.replicate 256 (.i .u8 0)) []) fun c7 => bnd (astoreN p5.2 256 ((.c (.p ((h ++ [some (Row.mk (c1) true)])).length 0))) ((.a c7))) fun h8 => tupN [aloadN h8 256 ((.c (.p ((h ++ [some (Row.mk (c1) true)])).length 0))), some (.c (.i .i64 1))] h8) (bnd (afill ([.i .u8 0, .i .u8 0, .i .u8 0, .i .u8 0]) [(0, 1, .c (.i .u8 105)), (1, 1, .c (.i .u8 100)), (2, 1, .c (.i .u8 120)), (3, 1, .c (.i .u8 33))]) fun c9 => bnd (amark ((((p5.2 ++ [none, none])).set (p5.2.length + 0) (some (Row.mk (c9) true)))) ((.c (.sl (p5.2.length + 0) 0 4 1)))) fun v10 => bnd (quiet ((((p5.2 ++ [none, none])).set (p5.2.length + 0) (some (Row.mk (c9) true)))) (S_num_Of [v10] ((((p5.2 ++ [none, none])).set (p5.2.length + 0) (some (Row.mk (c9) true)))))) fun p11 => bnd (afAddr ((.c (.p h.length 0))) 0) fun v12 => bnd (aload1 p5.2 v12) fun v13 => bnd (quiet p11.2 (S_num_With [p11.1, .c (.i .i64 4), .c (.i .i64 1), v13] p11.2)) fun p14 => bnd (astoreN ((p14.2.set (p5.2.length + 1) (some (Row.mk (List.replicate 256 (.i .u8 0)) true)))) 256 ((.c (.p (p5.2.length + 1) 0))) p14.1) fun h15 => bnd (afAddr ((.c (.p h.length 0))) 1) fun v16 => bnd (aloadN h15 32 v16) fun v17 => index_Put_l0 n n ((.c (.p ((h ++ [some (Row.mk (c1) true)])).length 0))) ((.c (.p (p5.2.length + 1) 0))) v17 (.c (.i .i64 0)) h15) := by kernel_rfl
theorem index_Put_l0_eq (n m : Nat) (x2 x4 x20 x21 : Val) (h : Heap) : index_Put_l0 n (m + 1) x2 x4 x20 x21 h = bnd (abin .lss x21 (.c (.i .i64 32))) fun v18 => cnd v18 (bnd (aidxA1 32 x20 x21) fun v19 => bnd (S_index_fine [v19] h) fun p20 => bnd (aun .not p20.1) fun v21 => cnd v21 (bnd (afill (List.replicate 256 (.i .u8 0)) []) fun c22 => bnd (astoreN p20.2 256 x2 ((.a c22))) fun h23 => tupN [aloadN h23 256 x2, some (.c (.i .i64 1))] h23) (bnd (aloadN p20.2 256 x4) fun v24 => bnd (abin .mul (.c (.i .i64 2)) x21) fun v25 => bnd (abin .add (.c (.i .i64 32)) v25) fun v26 => bnd (S_num_With [v24, v26, .c (.i .i64 2), v19] p20.2) fun p27 => bnd (astoreN p27.2 256 x4 p27.1) fun h28 => bnd (abin .add x21 (.c (.i .i64 1))) fun v29 => index_Put_l0 n m x2 x4 x20 v29 h28)) (bnd (aloadN h 256 x4) fun v30 => bnd (astoreN h 256 x2 v30) fun h31 => tupN [aloadN h31 256 x2, some (.c (.i .i64 0))] h31) := by kernel_rfl
theorem K_index_Put : FnK Try.prog 140 A_index_Put E_index_Put R_index_Put := .mk' (sound1 S_index_depth_ok (sound1 S_num_Of_ok (sound1 S_num_With_ok (sound1 S_index_fine_ok sound0)))) Try.func140 (by kernel_rfl) (by intro n args h; kernel_rfl)
noncomputable def S_index_Put : Fun := tidy (Lim A_index_Put E_index_Put)
theorem S_index_Put_ok : SOk Try.prog 140 S_index_Put := K_index_Put.sok
theorem S_index_Put_flat {n : Nat} {args : List Val} {h h2 : Heap} {v : Val} (he : R_index_Put n args (ro h) = some (v, h2)) (hf : v.flat = true) : S_index_Put args h = some (v, h) := K_index_Put.flat he hf
def index_Get_o0 : List AOper := [{ dst := some 1, op := .box (.t 0) }, { dst := some 2, op := .alloc ([.i .i64 0] ++ List.replicate 32 (.i .i64 0)) }, { dst := some 3, op := .mv (.v (.c (.i .i64 0))) }]
def index_Get_c0 : ACode := .ops index_Get_o0
def index_Get_o1 : List AOper := [{ dst := some 9, op := .loadN 256 (.t 1) }, { dst := some 10, op := .call 59 [(.t 9), (.v (.c (.i .i64 4))), (.v (.c (.i .i64 1)))] }, { dst := some 11, op := .build ([.i .i64 0] ++ List.replicate 32 (.i .i64 0)) [(0, 1, (.t 10))] }, { dst := some 4, op := .alloc ([.i .i64 0] ++ List.replicate 32 (.i .i64 0)) }, { dst := none, op := .storeN 33 (.t 4) (.t 11) }]
def index_Get_c1 : ACode := .ops index_Get_o1
def index_Get_o2 : List AOper := [{ dst := some 12, op := .mv (.v (.c (.i .i64 0))) }]
def index_Get_c2 : ACode := .ops index_Get_o2
def index_Get_o3 : List AOper := [{ dst := some 13, op := .bin .lss (.t 12) (.v (.c (.i .i64 32))) }]
def index_Get_c3 : ACode := .ops index_Get_o3
def index_Get_c4 : ACode := .cond (.t 13) .skip (.exit 0)
def index_Get_o4 : List AOper := [{ dst := some 14, op := .mv (.t 12) }, { dst := some 5, op := .mv (.t 14) }]
def index_Get_c5 : ACode := .ops index_Get_o4
def index_Get_o5 : List AOper := [{ dst := some 15, op := .mv (.t 5) }, { dst := some 16, op := .loadN 256 (.t 1) }, { dst := some 17, op := .mv (.t 5) }, { dst := some 18, op := .bin .mul (.v (.c (.i .i64 2))) (.t 17) }, { dst := some 19, op := .bin .add (.v (.c (.i .i64 32))) (.t 18) }, { dst := some 20, op := .call 59 [(.t 16), (.t 19), (.v (.c (.i .i64 2)))] }, { dst := some 21, op := .fAddr (.t 4) 1 }, { dst := some 22, op := .iAddrA 32 1 (.t 21) (.t 15) }, { dst := none, op := .store1 (.t 22) (.t 20) }]
def index_Get_c6 : ACode := .ops index_Get_o5
def index_Get_c7 : ACode := .seq [1, 2, 4, 5, 12] index_Get_c5 index_Get_c6
def index_Get_c8 : ACode := .block 1 index_Get_c7
def index_Get_o6 : List AOper := [{ dst := some 23, op := .bin .add (.t 12) (.v (.c (.i .i64 1))) }, { dst := some 12, op := .mv (.t 23) }]
def index_Get_c9 : ACode := .ops index_Get_o6
def index_Get_c10 : ACode := .seq [1, 2, 4, 12] index_Get_c8 index_Get_c9
def index_Get_c11 : ACode := .seq [1, 2, 4, 12] index_Get_c4 index_Get_c10
def index_Get_c12 : ACode := .seq [1, 2, 4, 12, 13] index_Get_c3 index_Get_c11
def index_Get_c13 : ACode := .loop [1, 2, 4, 12] index_Get_c12
def index_Get_c14 : ACode := .block 0 index_Get_c13
def index_Get_c15 : ACode := .seq [1, 2, 4, 12] index_Get_c2 index_Get_c14
def index_Get_o7 : List AOper := [{ dst := some 25, op := .loadN 33 (.t 4) }, { dst := some 26, op := .call 140 [(.t 25)] }, { dst := some 24, op := .mv (.t 26) }, { dst := some 27, op := .ext (.t 24) 0 }, { dst := some 28, op := .ext (.t 24) 1 }, { dst := some 6, op := .alloc (List.replicate 256 (.i .u8 0)) }, { dst := none, op := .storeN 256 (.t 6) (.t 27) }, { dst := some 7, op := .mv (.t 28) }]
def index_Get_c16 : ACode := .ops index_Get_o7
def index_Get_o8 : List AOper := [{ dst := some 29, op := .mv (.t 7) }, { dst := some 30, op := .bin .neq (.t 29) (.v (.c (.i .i64 0))) }, { dst := some 31, op := .mv (.t 30) }, { dst := some 32, op := .loadN 256 (.t 6), guard := some (31, false) }, { dst := some 33, op := .loadN 256 (.t 1), guard := some (31, false) }, { dst := some 34, op := .eqA true (List.replicate 256 (.i .u8)) (.t 32) (.t 33), guard := some (31, false) }, { dst := some 35, op := .pick (.t 31) (.v (.c (.b true))) (.t 34) }]
def index_Get_c17 : ACode := .ops index_Get_o8
def index_Get_o9 : List AOper := [{ dst := some 36, op := .build ([.i .i64 0] ++ List.replicate 32 (.i .i64 0)) [] }, { dst := none, op := .storeN 33 (.t 2) (.t 36) }, { dst := some 3, op := .mv (.v (.c (.i .i64 14))) }]
def index_Get_c18 : ACode := .ops index_Get_o9
def index_Get_c19 : ACode := .seq [2, 3] index_Get_c18 .ret
def index_Get_c20 : ACode := .cond (.t 35) index_Get_c19 .skip
def index_Get_c21 : ACode := .seq [2, 4, 35] index_Get_c17 index_Get_c20
def index_Get_o10 : List AOper := [{ dst := some 37, op := .loadN 33 (.t 4) }, { dst := some 38, op := .call 181 [(.t 37)] }, { dst := some 8, op := .mv (.t 38) }]
def index_Get_c22 : ACode := .ops index_Get_o10
def index_Get_o11 : List AOper := [{ dst := some 39, op := .mv (.t 8) }, { dst := some 40, op := .bin .lss (.t 39) (.v (.c (.i .i64 32))) }]
def index_Get_c23 : ACode := .ops index_Get_o11
def index_Get_c24 : ACode := .cond (.t 40) .skip (.exit 2)
def index_Get_c25 : ACode := .seq [2, 4, 8, 40] index_Get_c23 index_Get_c24
def index_Get_o12 : List AOper := [{ dst := some 43, op := .mv (.t 8) }, { dst := some 44, op := .fAddr (.t 4) 1 }, { dst := some 45, op := .iAddrA 32 1 (.t 44) (.t 43) }, { dst := some 46, op := .load1 (.t 45) }, { dst := some 47, op := .bin .neq (.t 46) (.v (.c (.i .i64 0))) }]
def index_Get_c26 : ACode := .ops index_Get_o12
def index_Get_o13 : List AOper := [{ dst := some 48, op := .build ([.i .i64 0] ++ List.replicate 32 (.i .i64 0)) [] }, { dst := none, op := .storeN 33 (.t 2) (.t 48) }, { dst := some 3, op := .mv (.v (.c (.i .i64 14))) }]
def index_Get_c27 : ACode := .ops index_Get_o13
def index_Get_c28 : ACode := .seq [2, 3] index_Get_c27 .ret
def index_Get_c29 : ACode := .cond (.t 47) index_Get_c28 .skip
def index_Get_c30 : ACode := .seq [2, 4, 8, 47] index_Get_c26 index_Get_c29
def index_Get_c31 : ACode := .block 3 index_Get_c30
def index_Get_o14 : List AOper := [{ dst := some 41, op := .mv (.t 8) }, { dst := some 42, op := .bin .add (.t 41) (.v (.c (.i .i64 1))) }, { dst := some 8, op := .mv (.t 42) }]
def index_Get_c32 : ACode := .ops index_Get_o14
def index_Get_c33 : ACode := .seq [2, 4, 8] index_Get_c31 index_Get_c32
def index_Get_c34 : ACode := .seq [2, 4, 8] index_Get_c25 index_Get_c33
def index_Get_c35 : ACode := .loop [2, 4, 8] index_Get_c34
def index_Get_c36 : ACode := .block 2 index_Get_c35
def index_Get_c37 : ACode := .seq [2, 4, 8] index_Get_c22 index_Get_c36
def index_Get_o15 : List AOper := [{ dst := some 49, op := .loadN 33 (.t 4) }, { dst := none, op := .storeN 33 (.t 2) (.t 49) }, { dst := some 3, op := .mv (.v (.c (.i .i64 0))) }]
def index_Get_c38 : ACode := .ops index_Get_o15
def index_Get_c39 : ACode := .seq [2, 3] index_Get_c38 .ret
def index_Get_c40 : ACode := .seq [2, 4] index_Get_c37 index_Get_c39
def index_Get_c41 : ACode := .seq [2, 4] index_Get_c21 index_Get_c40
def index_Get_c42 : ACode := .seq [1, 2, 4, 6, 7] index_Get_c16 index_Get_c41
def index_Get_c43 : ACode := .seq [1, 2, 4] index_Get_c15 index_Get_c42
def index_Get_c44 : ACode := .seq [1, 2, 4] index_Get_c1 index_Get_c43
def index_Get_c45 : ACode := .seq [1, 2] index_Get_c0 index_Get_c44
def A_index_Get : AFn := ⟨index_Get_c45, [.cellN 2 33, .tmp 3]⟩
noncomputable def E_index_Get : Sums := disp 59 S_num_At (disp 140 S_index_Put (disp 181 S_index_many disp0))
noncomputable def index_Get_c0_d (n : Nat) : SmV := smOps E_index_Get index_Get_o0
noncomputable def index_Get_c1_d (n : Nat) : SmV := smOps E_index_Get index_Get_o1
noncomputable def index_Get_c2_d (n : Nat) : SmV := smOps E_index_Get index_Get_o2
noncomputable def index_Get_c3_d (n : Nat) : SmV := smOps E_index_Get index_Get_o3
noncomputable def index_Get_c4_d (n : Nat) : SmV := smCond (.t 13) smSkip (smExit 0)
noncomputable def index_Get_c5_d (n : Nat) : SmV := smOps E_index_Get index_Get_o4
noncomputable def index_Get_c6_d (n : Nat) : SmV := smOps E_index_Get index_Get_o5
noncomputable def index_Get_c7_d (n : Nat) : SmV := smSeq [1, 2, 4, 5, 12] (index_Get_c5_d n) (index_Get_c6_d n)
noncomputable def index_Get_c8_d (n : Nat) : SmV := smBlock 1 (index_Get_c7_d n)
noncomputable def index_Get_c9_d (n : Nat) : SmV := smOps E_index_Get index_Get_o6
noncomputable def index_Get_c10_d (n : Nat) : SmV := smSeq [1, 2, 4, 12] (index_Get_c8_d n) (index_Get_c9_d n)
noncomputable def index_Get_c11_d (n : Nat) : SmV := smSeq [1, 2, 4, 12] (index_Get_c4_d n) (index_Get_c10_d n)
noncomputable def index_Get_c12_d (n : Nat) : SmV := smSeq [1, 2, 4, 12, 13] (index_Get_c3_d n) (index_Get_c11_d n)
noncomputable def index_Get_c13_d (n : Nat) : SmV := smLoop n [1, 2, 4, 12] (index_Get_c12_d n)
noncomputable def index_Get_c14_d (n : Nat) : SmV := smBlock 0 (index_Get_c13_d n)
noncomputable def index_Get_c15_d (n : Nat) : SmV := smSeq [1, 2, 4, 12] (index_Get_c2_d n) (index_Get_c14_d n)
noncomputable def index_Get_c16_d (n : Nat) : SmV := smOps E_index_Get index_Get_o7
noncomputable def index_Get_c17_d (n : Nat) : SmV := smOps E_index_Get index_Get_o8
noncomputable def index_Get_c18_d (n : Nat) : SmV := smOps E_index_Get index_Get_o9
noncomputable def index_Get_c19_d (n : Nat) : SmV := smSeq [2, 3] (index_Get_c18_d n) smRet
noncomputable def index_Get_c20_d (n : Nat) : SmV := smCond (.t 35) (index_Get_c19_d n) smSkip
noncomputable def index_Get_c21_d (n : Nat) : SmV := smSeq [2, 4, 35] (index_Get_c17_d n) (index_Get_c20_d n)
noncomputable def index_Get_c22_d (n : Nat) : SmV := smOps E_index_Get index_Get_o10
noncomputable def index_Get_c23_d (n : Nat) : SmV := smOps E_index_Get index_Get_o11
noncomputable def index_Get_c24_d (n : Nat) : SmV := smCond (.t 40) smSkip (smExit 2)
noncomputable def index_Get_c25_d (n : Nat) : SmV := smSeq [2, 4, 8, 40] (index_Get_c23_d n) (index_Get_c24_d n)
noncomputable def index_Get_c26_d (n : Nat) : SmV := smOps E_index_Get index_Get_o12
noncomputable def index_Get_c27_d (n : Nat) : SmV := smOps E_index_Get index_Get_o13
noncomputable def index_Get_c28_d (n : Nat) : SmV := smSeq [2, 3] (index_Get_c27_d n) smRet
noncomputable def index_Get_c29_d (n : Nat) : SmV := smCond (.t 47) (index_Get_c28_d n) smSkip
noncomputable def index_Get_c30_d (n : Nat) : SmV := smSeq [2, 4, 8, 47] (index_Get_c26_d n) (index_Get_c29_d n)
noncomputable def index_Get_c31_d (n : Nat) : SmV := smBlock 3 (index_Get_c30_d n)
noncomputable def index_Get_c32_d (n : Nat) : SmV := smOps E_index_Get index_Get_o14
noncomputable def index_Get_c33_d (n : Nat) : SmV := smSeq [2, 4, 8] (index_Get_c31_d n) (index_Get_c32_d n)
noncomputable def index_Get_c34_d (n : Nat) : SmV := smSeq [2, 4, 8] (index_Get_c25_d n) (index_Get_c33_d n)
noncomputable def index_Get_c35_d (n : Nat) : SmV := smLoop n [2, 4, 8] (index_Get_c34_d n)
noncomputable def index_Get_c36_d (n : Nat) : SmV := smBlock 2 (index_Get_c35_d n)
noncomputable def index_Get_c37_d (n : Nat) : SmV := smSeq [2, 4, 8] (index_Get_c22_d n) (index_Get_c36_d n)
noncomputable def index_Get_c38_d (n : Nat) : SmV := smOps E_index_Get index_Get_o15
noncomputable def index_Get_c39_d (n : Nat) : SmV := smSeq [2, 3] (index_Get_c38_d n) smRet
noncomputable def index_Get_c40_d (n : Nat) : SmV := smSeq [2, 4] (index_Get_c37_d n) (index_Get_c39_d n)
noncomputable def index_Get_c41_d (n : Nat) : SmV := smSeq [2, 4] (index_Get_c21_d n) (index_Get_c40_d n)
noncomputable def index_Get_c42_d (n : Nat) : SmV := smSeq [1, 2, 4, 6, 7] (index_Get_c16_d n) (index_Get_c41_d n)
noncomputable def index_Get_c43_d (n : Nat) : SmV := smSeq [1, 2, 4] (index_Get_c15_d n) (index_Get_c42_d n)
noncomputable def index_Get_c44_d (n : Nat) : SmV := smSeq [1, 2, 4] (index_Get_c1_d n) (index_Get_c43_d n)
noncomputable def index_Get_c45_d (n : Nat) : SmV := smSeq [1, 2] (index_Get_c0_d n) (index_Get_c44_d n)
noncomputable def index_Get_k0 (n : Nat) : AExit → Env → Heap → OptV := fun x e h => match x with | .normal => hold ((index_Get_c42_d n) A_index_Get.fin (e.keep [1, 2, 4]) h) | .exit id => A_index_Get.fin (.exit id) e h | .ret => A_index_Get.fin .ret e h
noncomputable def index_Get_k1 (n : Nat) : AExit → Env → Heap → OptV := fun x e h => match x with | .exit i => bif Nat.beq i 0 then (index_Get_k0 n) .normal e h else (index_Get_k0 n) (.exit i) e h | .normal => (index_Get_k0 n) .normal e h | .ret => (index_Get_k0 n) .ret e h
noncomputable def index_Get_l0 (n m : Nat) (x1 x2 x4 x12 : Val) (h : Heap) : OptV := around (index_Get_c12_d n) [1, 2, 4, 12] (index_Get_k1 n) m [(1, x1), (2, x2), (4, x4), (12, x12)] h
noncomputable def R_index_Get (n : Nat) (args : List Val) (h : Heap) : OptV := (index_Get_c45_d n) A_index_Get.fin (params 0 args) h
noncomputable def index_Get_k2 (n : Nat) : AExit → Env → Heap → OptV := fun x e h => match x with | .normal => hold ((index_Get_c39_d n) A_index_Get.fin (e.keep [2, 4]) h) | .exit id => A_index_Get.fin (.exit id) e h | .ret => A_index_Get.fin .ret e h
noncomputable def index_Get_k3 (n : Nat) : AExit → Env → Heap → OptV := fun x e h => match x with | .exit i => bif Nat.beq i 2 then (index_Get_k2 n) .normal e h else (index_Get_k2 n) (.exit i) e h | .normal => (index_Get_k2 n) .normal e h | .ret => (index_Get_k2 n) .ret e h
noncomputable def index_Get_l1 (n m : Nat) (x2 x4 x8 : Val) (h : Heap) : OptV := around (index_Get_c34_d n) [2, 4, 8] (index_Get_k3 n) m [(2, x2), (4, x4), (8, x8)] h
theorem R_index_Get_eq (n : Nat) (a0 : Val) (h : Heap) : R_index_Get n [a0] h = bnd (cells? a0) fun c1 => bnd (aloadN (((h ++ [some (Row.mk (c1) true)]) ++ [some (Row.mk ([.i .i64 0] ++ List.replicate 32 (.i .i64 0)) true)])) 256 ((.c (.p h.length 0)))) fun v2 => bnd (S_num_At [v2, .c (.i .i64 4), .c (.i .i64 1)] (((h ++ [some (Row.mk (c1) true)]) ++ [some (Row.mk ([.i .i64 0] ++ List.replicate 32 (.i .i64 0)) true)]))) fun p3 => bnd (afill ([.i .i64 0] ++ List.replicate 32 (.i .i64 0)) [(0, 1, p3.1)]) fun c4 => bnd (astoreN ((p3.2 ++ [some (Row.mk ([.i .i64 0] ++ List.replicate 32 (.i .i64 0)) true)])) 33 ((.c (.p p3.2.length 0))) ((.a c4))) fun h5 => index_Get_l0 n n ((.c (.p h.length 0))) ((.c (.p ((h ++ [some (Row.mk (c1) true)])).length 0))) ((.c (.p p3.2.length 0))) (.c (.i .i64 0)) h5 := by kernel_rfl
theorem index_Get_l0_eq (n m : Nat) (x1 x2 x4 x12 : Val) (h : Heap) : index_Get_l0 n (m + 1) x1 x2 x4 x12 h = bnd (abin .lss x12 (.c (.i .i64 32))) fun v6 => cnd v6 (bnd (aloadN h 256 x1) fun v7 => bnd (abin .mul (.c (.i .i64 2)) x12) fun v8 => bnd (abin .add (.c (.i .i64 32)) v8) fun v9 => bnd (S_num_At [v7, v9, .c (.i .i64 2)] h) fun p10 => bnd (afAddr x4 1) fun v11 => bnd (aiAddrA 32 1 v11 x12) fun v12 => bnd (astore1 p10.2 v12 p10.1) fun h13 => bnd (abin .add x12 (.c (.i .i64 1))) fun v14 => index_Get_l0 n m x1 x2 x4 v14 h13) (bnd (aloadN h 33 x4) fun v15 => bnd (S_index_Put [v15] h) fun p16 => bnd (aext p16.1 0) fun v17 => bnd (aext p16.1 1) fun v18 => bnd (astoreN ((p16.2 ++ [some (Row.mk (List.replicate 256 (.i .u8 0)) true)])) 256 ((.c (.p p16.2.length 0))) v17) fun h19 => bnd (abin .neq v18 (.c (.i .i64 0))) fun v20 => bnd (gd v20 false (bnd (aloadN h19 256 ((.c (.p p16.2.length 0)))) fun v21 => some (v21, h19)) (some (.no, h19))) fun p22 => bnd (gd v20 false (bnd (aloadN p22.2 256 x1) fun v23 => some (v23, p22.2)) (some (.no, p22.2))) fun p24 => bnd (gd v20 false (bnd (aeq true (List.replicate 256 (.i .u8)) p22.1 p24.1) fun v25 => some (v25, p24.2)) (some (.no, p24.2))) fun p26 => bnd (apick v20 (.c (.b true)) p26.1) fun v27 => cnd v27 (bnd (afill ([.i .i64 0] ++ List.replicate 32 (.i .i64 0)) []) fun c28 => bnd (astoreN p26.2 33 x2 ((.a c28))) fun h29 => tupN [aloadN h29 33 x2, some (.c (.i .i64 14))] h29) (bnd (aloadN p26.2 33 x4) fun v30 => bnd (S_index_many [v30] p26.2) fun p31 => index_Get_l1 n n x2 x4 p31.1 p31.2)) := by kernel_rfl
theorem index_Get_l1_eq (n m : Nat) (x2 x4 x8 : Val) (h : Heap) : index_Get_l1 n (m + 1) x2 x4 x8 h = bnd (abin .lss x8 (.c (.i .i64 32))) fun v32 => cnd v32 (bnd (afAddr x4 1) fun v33 => bnd (aiAddrA 32 1 v33 x8) fun v34 => bnd (aload1 h v34) fun v35 => bnd (abin .neq v35 (.c (.i .i64 0))) fun v36 => cnd v36 (bnd (afill ([.i .i64 0] ++ List.replicate 32 (.i .i64 0)) []) fun c37 => bnd (astoreN h 33 x2 ((.a c37))) fun h38 => tupN [aloadN h38 33 x2, some (.c (.i .i64 14))] h38) (bnd (abin .add x8 (.c (.i .i64 1))) fun v39 => index_Get_l1 n m x2 x4 v39 h)) (bnd (aloadN h 33 x4) fun v40 => bnd (astoreN h 33 x2 v40) fun h41 => tupN [aloadN h41 33 x2, some (.c (.i .i64 0))] h41) := by kernel_rfl
theorem K_index_Get : FnK Try.prog 143 A_index_Get E_index_Get R_index_Get := .mk' (sound1 S_num_At_ok (sound1 S_index_Put_ok (sound1 S_index_many_ok sound0))) Try.func143 (by kernel_rfl) (by intro n args h; kernel_rfl)
noncomputable def S_index_Get : Fun := tidy (Lim A_index_Get E_index_Get)
theorem S_index_Get_ok : SOk Try.prog 143 S_index_Get := K_index_Get.sok
theorem S_index_Get_flat {n : Nat} {args : List Val} {h h2 : Heap} {v : Val} (he : R_index_Get n args (ro h) = some (v, h2)) (hf : v.flat = true) : S_index_Get args h = some (v, h) := K_index_Get.flat he hf
end Go.Proofs.Ytbbkpmbepljhkaa
