/- Mix: the Go functions of this package as the abstract evaluator computes them: printed by a program, checked by Lean. -/
import Derived.Test.YtbbkpmbepljhkaaEscS
import Derived.Test.YtbbkpmbepljhkaaChecked
import Derived.KernelRfl
namespace Go.Proofs.Ytbbkpmbepljhkaa
open Go Go.Esc
set_option maxRecDepth 100000
set_option linter.all false
def mix_More_o0 : List AOper := [{ dst := some 4, op := .mv (.v (.c (.i .u32 0))) }]
def mix_More_c0 : ACode := .ops mix_More_o0
def mix_More_o1 : List AOper := [{ dst := some 6, op := .mv (.t 1) }, { dst := some 7, op := .lenS (.t 6) }, { dst := some 8, op := .mv (.v (.c (.i .i64 0))) }]
def mix_More_c1 : ACode := .ops mix_More_o1
def mix_More_o2 : List AOper := [{ dst := some 9, op := .bin .lss (.t 8) (.t 7) }]
def mix_More_c2 : ACode := .ops mix_More_o2
def mix_More_c3 : ACode := .cond (.t 9) .skip (.exit 0)
def mix_More_o3 : List AOper := [{ dst := some 10, op := .mv (.t 8) }, { dst := some 5, op := .mv (.t 10) }]
def mix_More_c4 : ACode := .ops mix_More_o3
def mix_More_o4 : List AOper := [{ dst := some 11, op := .mv (.t 0) }, { dst := some 12, op := .mv (.t 1) }, { dst := some 13, op := .mv (.t 5) }, { dst := some 14, op := .idxS (.t 12) (.t 13) }, { dst := some 15, op := .conv .u32 (.t 14) }, { dst := some 16, op := .bin .xor (.t 11) (.t 15) }, { dst := some 17, op := .bin .mul (.t 16) (.v (.c (.i .u32 16777619))) }, { dst := some 0, op := .mv (.t 17) }]
def mix_More_c5 : ACode := .ops mix_More_o4
def mix_More_c6 : ACode := .seq [0, 1, 5, 7, 8] mix_More_c4 mix_More_c5
def mix_More_c7 : ACode := .block 1 mix_More_c6
def mix_More_o5 : List AOper := [{ dst := some 18, op := .bin .add (.t 8) (.v (.c (.i .i64 1))) }, { dst := some 8, op := .mv (.t 18) }]
def mix_More_c8 : ACode := .ops mix_More_o5
def mix_More_c9 : ACode := .seq [0, 1, 7, 8] mix_More_c7 mix_More_c8
def mix_More_c10 : ACode := .seq [0, 1, 7, 8] mix_More_c3 mix_More_c9
def mix_More_c11 : ACode := .seq [0, 1, 7, 8, 9] mix_More_c2 mix_More_c10
def mix_More_c12 : ACode := .loop [0, 1, 7, 8] mix_More_c11
def mix_More_c13 : ACode := .block 0 mix_More_c12
def mix_More_c14 : ACode := .seq [0, 1, 7, 8] mix_More_c1 mix_More_c13
def mix_More_o6 : List AOper := [{ dst := some 19, op := .mv (.t 0) }, { dst := some 4, op := .mv (.t 19) }]
def mix_More_c15 : ACode := .ops mix_More_o6
def mix_More_c16 : ACode := .seq [4] mix_More_c15 .ret
def mix_More_c17 : ACode := .seq [0] mix_More_c14 mix_More_c16
def mix_More_c18 : ACode := .seq [0, 1] mix_More_c0 mix_More_c17
def A_mix_More : AFn := ⟨mix_More_c18, [.tmp 4]⟩
noncomputable def E_mix_More : Sums := disp0
noncomputable def mix_More_c0_d (n : Nat) : SmV := smOps E_mix_More mix_More_o0
noncomputable def mix_More_c1_d (n : Nat) : SmV := smOps E_mix_More mix_More_o1
noncomputable def mix_More_c2_d (n : Nat) : SmV := smOps E_mix_More mix_More_o2
noncomputable def mix_More_c3_d (n : Nat) : SmV := smCond (.t 9) smSkip (smExit 0)
noncomputable def mix_More_c4_d (n : Nat) : SmV := smOps E_mix_More mix_More_o3
noncomputable def mix_More_c5_d (n : Nat) : SmV := smOps E_mix_More mix_More_o4
noncomputable def mix_More_c6_d (n : Nat) : SmV := smSeq [0, 1, 5, 7, 8] (mix_More_c4_d n) (mix_More_c5_d n)
noncomputable def mix_More_c7_d (n : Nat) : SmV := smBlock 1 (mix_More_c6_d n)
noncomputable def mix_More_c8_d (n : Nat) : SmV := smOps E_mix_More mix_More_o5
noncomputable def mix_More_c9_d (n : Nat) : SmV := smSeq [0, 1, 7, 8] (mix_More_c7_d n) (mix_More_c8_d n)
noncomputable def mix_More_c10_d (n : Nat) : SmV := smSeq [0, 1, 7, 8] (mix_More_c3_d n) (mix_More_c9_d n)
noncomputable def mix_More_c11_d (n : Nat) : SmV := smSeq [0, 1, 7, 8, 9] (mix_More_c2_d n) (mix_More_c10_d n)
noncomputable def mix_More_c12_d (n : Nat) : SmV := smLoop n [0, 1, 7, 8] (mix_More_c11_d n)
noncomputable def mix_More_c13_d (n : Nat) : SmV := smBlock 0 (mix_More_c12_d n)
noncomputable def mix_More_c14_d (n : Nat) : SmV := smSeq [0, 1, 7, 8] (mix_More_c1_d n) (mix_More_c13_d n)
noncomputable def mix_More_c15_d (n : Nat) : SmV := smOps E_mix_More mix_More_o6
noncomputable def mix_More_c16_d (n : Nat) : SmV := smSeq [4] (mix_More_c15_d n) smRet
noncomputable def mix_More_c17_d (n : Nat) : SmV := smSeq [0] (mix_More_c14_d n) (mix_More_c16_d n)
noncomputable def mix_More_c18_d (n : Nat) : SmV := smSeq [0, 1] (mix_More_c0_d n) (mix_More_c17_d n)
noncomputable def mix_More_k0 (n : Nat) : AExit → Env → Heap → OptV := fun x e h => match x with | .normal => hold ((mix_More_c16_d n) A_mix_More.fin (e.keep [0]) h) | .exit id => A_mix_More.fin (.exit id) e h | .ret => A_mix_More.fin .ret e h
noncomputable def mix_More_k1 (n : Nat) : AExit → Env → Heap → OptV := fun x e h => match x with | .exit i => bif Nat.beq i 0 then (mix_More_k0 n) .normal e h else (mix_More_k0 n) (.exit i) e h | .normal => (mix_More_k0 n) .normal e h | .ret => (mix_More_k0 n) .ret e h
noncomputable def mix_More_l0 (n m : Nat) (x0 x1 x7 x8 : Val) (h : Heap) : OptV := around (mix_More_c11_d n) [0, 1, 7, 8] (mix_More_k1 n) m [(0, x0), (1, x1), (7, x7), (8, x8)] h
noncomputable def R_mix_More (n : Nat) (args : List Val) (h : Heap) : OptV := (mix_More_c18_d n) A_mix_More.fin (params 0 args) h
theorem R_mix_More_eq (n : Nat) (a0 a1 : Val) (h : Heap) : R_mix_More n [a0, a1] h = bnd (alenS a1) fun v1 => mix_More_l0 n n a0 a1 v1 (.c (.i .i64 0)) h := by kernel_rfl
theorem mix_More_l0_eq (n m : Nat) (x0 x1 x7 x8 : Val) (h : Heap) : mix_More_l0 n (m + 1) x0 x1 x7 x8 h = bnd (abin .lss x8 x7) fun v2 => cnd v2 (bnd (aidxS x1 x8) fun v3 => bnd (aconv .u32 v3) fun v4 => bnd (abin .xor x0 v4) fun v5 => bnd (abin .mul v5 (.c (.i .u32 16777619))) fun v6 => bnd (abin .add x8 (.c (.i .i64 1))) fun v7 => mix_More_l0 n m v6 x1 x7 v7 h) (some (x0, h)) := by kernel_rfl
theorem K_mix_More : FnK Try.prog 205 A_mix_More E_mix_More R_mix_More := .mk' (sound0) Try.func205 (by kernel_rfl) (by intro n args h; kernel_rfl)
noncomputable def S_mix_More : Fun := tidy (Lim A_mix_More E_mix_More)
theorem S_mix_More_ok : SOk Try.prog 205 S_mix_More := K_mix_More.sok
theorem S_mix_More_flat {n : Nat} {args : List Val} {h h2 : Heap} {v : Val} (he : R_mix_More n args (ro h) = some (v, h2)) (hf : v.flat = true) : S_mix_More args h = some (v, h) := K_mix_More.flat he hf
def mix_Of_o0 : List AOper := [{ dst := some 2, op := .mv (.v (.c (.i .u32 0))) }]
def mix_Of_c0 : ACode := .ops mix_Of_o0
def mix_Of_o1 : List AOper := [{ dst := some 3, op := .mv (.t 0) }, { dst := some 4, op := .call 205 [(.v (.c (.i .u32 2166136261))), (.t 3)] }, { dst := some 2, op := .mv (.t 4) }]
def mix_Of_c1 : ACode := .ops mix_Of_o1
def mix_Of_c2 : ACode := .seq [2] mix_Of_c1 .ret
def mix_Of_c3 : ACode := .seq [0] mix_Of_c0 mix_Of_c2
def A_mix_Of : AFn := ⟨mix_Of_c3, [.tmp 2]⟩
noncomputable def E_mix_Of : Sums := disp 205 S_mix_More disp0
noncomputable def mix_Of_c0_d (n : Nat) : SmV := smOps E_mix_Of mix_Of_o0
noncomputable def mix_Of_c1_d (n : Nat) : SmV := smOps E_mix_Of mix_Of_o1
noncomputable def mix_Of_c2_d (n : Nat) : SmV := smSeq [2] (mix_Of_c1_d n) smRet
noncomputable def mix_Of_c3_d (n : Nat) : SmV := smSeq [0] (mix_Of_c0_d n) (mix_Of_c2_d n)
noncomputable def R_mix_Of (n : Nat) (args : List Val) (h : Heap) : OptV := (mix_Of_c3_d n) A_mix_Of.fin (params 0 args) h
theorem R_mix_Of_eq (n : Nat) (a0 : Val) (h : Heap) : R_mix_Of n [a0] h = bnd (S_mix_More [.c (.i .u32 2166136261), a0] h) fun p1 => some (p1.1, p1.2) := by kernel_rfl
theorem K_mix_Of : FnK Try.prog 186 A_mix_Of E_mix_Of R_mix_Of := .mk' (sound1 S_mix_More_ok sound0) Try.func186 (by kernel_rfl) (by intro n args h; kernel_rfl)
noncomputable def S_mix_Of : Fun := tidy (Lim A_mix_Of E_mix_Of)
theorem S_mix_Of_ok : SOk Try.prog 186 S_mix_Of := K_mix_Of.sok
theorem S_mix_Of_flat {n : Nat} {args : List Val} {h h2 : Heap} {v : Val} (he : R_mix_Of n args (ro h) = some (v, h2)) (hf : v.flat = true) : S_mix_Of args h = some (v, h) := K_mix_Of.flat he hf
def mix_Low_o0 : List AOper := [{ dst := some 4, op := .mv (.v (.c (.i .i64 0))) }]
def mix_Low_c0 : ACode := .ops mix_Low_o0
def mix_Low_o1 : List AOper := [{ dst := some 6, op := .mv (.t 1) }, { dst := some 7, op := .bin .lss (.t 6) (.v (.c (.i .i64 1))) }, { dst := some 5, op := .mv (.t 7) }]
def mix_Low_c1 : ACode := .ops mix_Low_o1
def mix_Low_o2 : List AOper := [{ dst := some 4, op := .mv (.v (.c (.i .i64 0))) }]
def mix_Low_c2 : ACode := .ops mix_Low_o2
def mix_Low_c3 : ACode := .seq [4] mix_Low_c2 .ret
def mix_Low_o3 : List AOper := [{ dst := some 9, op := .mv (.t 1) }, { dst := some 10, op := .bin .geq (.t 9) (.v (.c (.i .i64 32))) }, { dst := some 8, op := .mv (.t 10) }]
def mix_Low_c4 : ACode := .ops mix_Low_o3
def mix_Low_o4 : List AOper := [{ dst := some 11, op := .mv (.t 0) }, { dst := some 12, op := .conv .i64 (.t 11) }, { dst := some 4, op := .mv (.t 12) }]
def mix_Low_c5 : ACode := .ops mix_Low_o4
def mix_Low_c6 : ACode := .seq [4] mix_Low_c5 .ret
def mix_Low_c7 : ACode := .cond (.t 8) mix_Low_c6 .skip
def mix_Low_c8 : ACode := .seq [0, 1, 8] mix_Low_c4 mix_Low_c7
def mix_Low_c9 : ACode := .cond (.t 5) mix_Low_c3 mix_Low_c8
def mix_Low_c10 : ACode := .seq [0, 1, 5] mix_Low_c1 mix_Low_c9
def mix_Low_c11 : ACode := .block 0 mix_Low_c10
def mix_Low_o5 : List AOper := [{ dst := some 13, op := .mv (.t 0) }, { dst := some 14, op := .mv (.t 1) }, { dst := some 15, op := .conv .u64 (.t 14) }, { dst := some 16, op := .bin .shl (.v (.c (.i .u32 1))) (.t 15) }, { dst := some 17, op := .bin .sub (.t 16) (.v (.c (.i .u32 1))) }, { dst := some 18, op := .bin .and (.t 13) (.t 17) }, { dst := some 19, op := .conv .i64 (.t 18) }, { dst := some 4, op := .mv (.t 19) }]
def mix_Low_c12 : ACode := .ops mix_Low_o5
def mix_Low_c13 : ACode := .seq [4] mix_Low_c12 .ret
def mix_Low_c14 : ACode := .seq [0, 1] mix_Low_c11 mix_Low_c13
def mix_Low_c15 : ACode := .seq [0, 1] mix_Low_c0 mix_Low_c14
def A_mix_Low : AFn := ⟨mix_Low_c15, [.tmp 4]⟩
noncomputable def E_mix_Low : Sums := disp0
noncomputable def mix_Low_c0_d (n : Nat) : SmV := smOps E_mix_Low mix_Low_o0
noncomputable def mix_Low_c1_d (n : Nat) : SmV := smOps E_mix_Low mix_Low_o1
noncomputable def mix_Low_c2_d (n : Nat) : SmV := smOps E_mix_Low mix_Low_o2
noncomputable def mix_Low_c3_d (n : Nat) : SmV := smSeq [4] (mix_Low_c2_d n) smRet
noncomputable def mix_Low_c4_d (n : Nat) : SmV := smOps E_mix_Low mix_Low_o3
noncomputable def mix_Low_c5_d (n : Nat) : SmV := smOps E_mix_Low mix_Low_o4
noncomputable def mix_Low_c6_d (n : Nat) : SmV := smSeq [4] (mix_Low_c5_d n) smRet
noncomputable def mix_Low_c7_d (n : Nat) : SmV := smCond (.t 8) (mix_Low_c6_d n) smSkip
noncomputable def mix_Low_c8_d (n : Nat) : SmV := smSeq [0, 1, 8] (mix_Low_c4_d n) (mix_Low_c7_d n)
noncomputable def mix_Low_c9_d (n : Nat) : SmV := smCond (.t 5) (mix_Low_c3_d n) (mix_Low_c8_d n)
noncomputable def mix_Low_c10_d (n : Nat) : SmV := smSeq [0, 1, 5] (mix_Low_c1_d n) (mix_Low_c9_d n)
noncomputable def mix_Low_c11_d (n : Nat) : SmV := smBlock 0 (mix_Low_c10_d n)
noncomputable def mix_Low_c12_d (n : Nat) : SmV := smOps E_mix_Low mix_Low_o5
noncomputable def mix_Low_c13_d (n : Nat) : SmV := smSeq [4] (mix_Low_c12_d n) smRet
noncomputable def mix_Low_c14_d (n : Nat) : SmV := smSeq [0, 1] (mix_Low_c11_d n) (mix_Low_c13_d n)
noncomputable def mix_Low_c15_d (n : Nat) : SmV := smSeq [0, 1] (mix_Low_c0_d n) (mix_Low_c14_d n)
noncomputable def R_mix_Low (n : Nat) (args : List Val) (h : Heap) : OptV := (mix_Low_c15_d n) A_mix_Low.fin (params 0 args) h
theorem R_mix_Low_eq (n : Nat) (a0 a1 : Val) (h : Heap) : R_mix_Low n [a0, a1] h = bnd (abin .lss a1 (.c (.i .i64 1))) fun v1 => cnd v1 (some ((.c (.i .i64 0)), h)) (bnd (abin .geq a1 (.c (.i .i64 32))) fun v2 => cnd v2 (bnd (aconv .i64 a0) fun v3 => some (v3, h)) (bnd (aconv .u64 a1) fun v4 => bnd (abin .shl (.c (.i .u32 1)) v4) fun v5 => bnd (abin .sub v5 (.c (.i .u32 1))) fun v6 => bnd (abin .and a0 v6) fun v7 => bnd (aconv .i64 v7) fun v8 => some (v8, h))) := by kernel_rfl
theorem K_mix_Low : FnK Try.prog 135 A_mix_Low E_mix_Low R_mix_Low := .mk' (sound0) Try.func135 (by kernel_rfl) (by intro n args h; kernel_rfl)
noncomputable def S_mix_Low : Fun := tidy (Lim A_mix_Low E_mix_Low)
theorem S_mix_Low_ok : SOk Try.prog 135 S_mix_Low := K_mix_Low.sok
theorem S_mix_Low_flat {n : Nat} {args : List Val} {h h2 : Heap} {v : Val} (he : R_mix_Low n args (ro h) = some (v, h2)) (hf : v.flat = true) : S_mix_Low args h = some (v, h) := K_mix_Low.flat he hf
end Go.Proofs.Ytbbkpmbepljhkaa
