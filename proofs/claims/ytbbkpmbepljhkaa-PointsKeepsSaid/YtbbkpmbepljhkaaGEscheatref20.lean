/- Escheatref20: the Go functions of this package as the abstract evaluator computes them: printed by a program, checked by Lean. -/
import Derived.Test.YtbbkpmbepljhkaaEscS
import Derived.Test.YtbbkpmbepljhkaaChecked
import Derived.KernelRfl
import Derived.Test.YtbbkpmbepljhkaaGEscheatref01
namespace Go.Proofs.Ytbbkpmbepljhkaa
open Go Go.Esc
set_option maxRecDepth 100000
set_option linter.all false
def escheatref20_Numbers_o0 : List AOper := [{ dst := some 2, op := .nilrow 1 }]
def escheatref20_Numbers_c0 : ACode := .ops escheatref20_Numbers_o0
def escheatref20_Numbers_o1 : List AOper := [{ dst := some 3, op := .nilrow 1 }]
def escheatref20_Numbers_c1 : ACode := .ops escheatref20_Numbers_o1
def escheatref20_Numbers_o2 : List AOper := [{ dst := some 4, op := .mv (.v (.c (.i .i64 0))) }]
def escheatref20_Numbers_c2 : ACode := .ops escheatref20_Numbers_o2
def escheatref20_Numbers_o3 : List AOper := [{ dst := some 5, op := .mv (.t 4) }, { dst := some 6, op := .bin .lss (.t 5) (.v (.c (.i .i64 128))) }]
def escheatref20_Numbers_c3 : ACode := .ops escheatref20_Numbers_o3
def escheatref20_Numbers_c4 : ACode := .cond (.t 6) .skip (.exit 0)
def escheatref20_Numbers_c5 : ACode := .seq [0, 3, 4, 6] escheatref20_Numbers_c3 escheatref20_Numbers_c4
def escheatref20_Numbers_o4 : List AOper := [{ dst := some 9, op := .mv (.t 3) }, { dst := some 10, op := .mv (.t 0) }, { dst := some 11, op := .mv (.t 4) }, { dst := some 12, op := .bin .mul (.v (.c (.i .i64 2))) (.t 11) }, { dst := some 13, op := .call 83 [(.t 10), (.t 12), (.v (.c (.i .i64 2)))] }, { dst := some 14, op := .buildSl 1 1 ([.i .i64 0]) [(0, 1, (.t 13))] }, { dst := some 15, op := .app 1 (.t 9) (.t 14) }, { dst := some 3, op := .mv (.t 15) }]
def escheatref20_Numbers_c6 : ACode := .ops escheatref20_Numbers_o4
def escheatref20_Numbers_c7 : ACode := .block 1 escheatref20_Numbers_c6
def escheatref20_Numbers_o5 : List AOper := [{ dst := some 7, op := .mv (.t 4) }, { dst := some 8, op := .bin .add (.t 7) (.v (.c (.i .i64 1))) }, { dst := some 4, op := .mv (.t 8) }]
def escheatref20_Numbers_c8 : ACode := .ops escheatref20_Numbers_o5
def escheatref20_Numbers_c9 : ACode := .seq [0, 3, 4] escheatref20_Numbers_c7 escheatref20_Numbers_c8
def escheatref20_Numbers_c10 : ACode := .seq [0, 3, 4] escheatref20_Numbers_c5 escheatref20_Numbers_c9
def escheatref20_Numbers_c11 : ACode := .loop [0, 3, 4] escheatref20_Numbers_c10
def escheatref20_Numbers_c12 : ACode := .block 0 escheatref20_Numbers_c11
def escheatref20_Numbers_c13 : ACode := .seq [0, 3, 4] escheatref20_Numbers_c2 escheatref20_Numbers_c12
def escheatref20_Numbers_o6 : List AOper := [{ dst := some 16, op := .mv (.t 3) }, { dst := some 2, op := .mv (.t 16) }]
def escheatref20_Numbers_c14 : ACode := .ops escheatref20_Numbers_o6
def escheatref20_Numbers_c15 : ACode := .seq [2] escheatref20_Numbers_c14 .ret
def escheatref20_Numbers_c16 : ACode := .seq [3] escheatref20_Numbers_c13 escheatref20_Numbers_c15
def escheatref20_Numbers_c17 : ACode := .seq [0, 3] escheatref20_Numbers_c1 escheatref20_Numbers_c16
def escheatref20_Numbers_c18 : ACode := .seq [0] escheatref20_Numbers_c0 escheatref20_Numbers_c17
def A_escheatref20_Numbers : AFn := ⟨escheatref20_Numbers_c18, [.tmp 2]⟩
noncomputable def E_escheatref20_Numbers : Sums := disp 83 S_escheatref01_At disp0
noncomputable def escheatref20_Numbers_c0_d (n : Nat) : SmV := smOps E_escheatref20_Numbers escheatref20_Numbers_o0
noncomputable def escheatref20_Numbers_c1_d (n : Nat) : SmV := smOps E_escheatref20_Numbers escheatref20_Numbers_o1
noncomputable def escheatref20_Numbers_c2_d (n : Nat) : SmV := smOps E_escheatref20_Numbers escheatref20_Numbers_o2
noncomputable def escheatref20_Numbers_c3_d (n : Nat) : SmV := smOps E_escheatref20_Numbers escheatref20_Numbers_o3
noncomputable def escheatref20_Numbers_c4_d (n : Nat) : SmV := smCond (.t 6) smSkip (smExit 0)
noncomputable def escheatref20_Numbers_c5_d (n : Nat) : SmV := smSeq [0, 3, 4, 6] (escheatref20_Numbers_c3_d n) (escheatref20_Numbers_c4_d n)
noncomputable def escheatref20_Numbers_c6_d (n : Nat) : SmV := smOps E_escheatref20_Numbers escheatref20_Numbers_o4
noncomputable def escheatref20_Numbers_c7_d (n : Nat) : SmV := smBlock 1 (escheatref20_Numbers_c6_d n)
noncomputable def escheatref20_Numbers_c8_d (n : Nat) : SmV := smOps E_escheatref20_Numbers escheatref20_Numbers_o5
noncomputable def escheatref20_Numbers_c9_d (n : Nat) : SmV := smSeq [0, 3, 4] (escheatref20_Numbers_c7_d n) (escheatref20_Numbers_c8_d n)
noncomputable def escheatref20_Numbers_c10_d (n : Nat) : SmV := smSeq [0, 3, 4] (escheatref20_Numbers_c5_d n) (escheatref20_Numbers_c9_d n)
noncomputable def escheatref20_Numbers_c11_d (n : Nat) : SmV := smLoop n [0, 3, 4] (escheatref20_Numbers_c10_d n)
noncomputable def escheatref20_Numbers_c12_d (n : Nat) : SmV := smBlock 0 (escheatref20_Numbers_c11_d n)
noncomputable def escheatref20_Numbers_c13_d (n : Nat) : SmV := smSeq [0, 3, 4] (escheatref20_Numbers_c2_d n) (escheatref20_Numbers_c12_d n)
noncomputable def escheatref20_Numbers_c14_d (n : Nat) : SmV := smOps E_escheatref20_Numbers escheatref20_Numbers_o6
noncomputable def escheatref20_Numbers_c15_d (n : Nat) : SmV := smSeq [2] (escheatref20_Numbers_c14_d n) smRet
noncomputable def escheatref20_Numbers_c16_d (n : Nat) : SmV := smSeq [3] (escheatref20_Numbers_c13_d n) (escheatref20_Numbers_c15_d n)
noncomputable def escheatref20_Numbers_c17_d (n : Nat) : SmV := smSeq [0, 3] (escheatref20_Numbers_c1_d n) (escheatref20_Numbers_c16_d n)
noncomputable def escheatref20_Numbers_c18_d (n : Nat) : SmV := smSeq [0] (escheatref20_Numbers_c0_d n) (escheatref20_Numbers_c17_d n)
noncomputable def escheatref20_Numbers_k0 (n : Nat) : AExit → Env → Heap → OptV := fun x e h => match x with | .normal => hold ((escheatref20_Numbers_c15_d n) A_escheatref20_Numbers.fin (e.keep [3]) h) | .exit id => A_escheatref20_Numbers.fin (.exit id) e h | .ret => A_escheatref20_Numbers.fin .ret e h
noncomputable def escheatref20_Numbers_k1 (n : Nat) : AExit → Env → Heap → OptV := fun x e h => match x with | .exit i => bif Nat.beq i 0 then (escheatref20_Numbers_k0 n) .normal e h else (escheatref20_Numbers_k0 n) (.exit i) e h | .normal => (escheatref20_Numbers_k0 n) .normal e h | .ret => (escheatref20_Numbers_k0 n) .ret e h
noncomputable def escheatref20_Numbers_l0 (n m : Nat) (x0 x3 x4 : Val) (h : Heap) : OptV := around (escheatref20_Numbers_c10_d n) [0, 3, 4] (escheatref20_Numbers_k1 n) m [(0, x0), (3, x3), (4, x4)] h
noncomputable def R_escheatref20_Numbers (n : Nat) (args : List Val) (h : Heap) : OptV := (escheatref20_Numbers_c18_d n) A_escheatref20_Numbers.fin (params 0 args) h
theorem R_escheatref20_Numbers_eq (n : Nat) (a0 : Val) (h : Heap) : R_escheatref20_Numbers n [a0] h = escheatref20_Numbers_l0 n n a0 ((.c (.sl ((h ++ [some (Row.mk ([]) true)])).length 0 0 1))) (.c (.i .i64 0)) (((h ++ [some (Row.mk ([]) true)]) ++ [some (Row.mk ([]) true)])) := by kernel_rfl
theorem escheatref20_Numbers_l0_eq (n m : Nat) (x0 x3 x4 : Val) (h : Heap) : escheatref20_Numbers_l0 n (m + 1) x0 x3 x4 h = bnd (abin .lss x4 (.c (.i .i64 128))) fun v1 => cnd v1 (bnd (abin .mul (.c (.i .i64 2)) x4) fun v2 => bnd (S_escheatref01_At [x0, v2, .c (.i .i64 2)] h) fun p3 => bnd (afill ([.i .i64 0]) [(0, 1, p3.1)]) fun c4 => bnd (aapp ((p3.2 ++ [some (Row.mk (c4) true)])) 1 x3 ((.c (.sl p3.2.length 0 1 1)))) fun p5 => bnd (abin .add x4 (.c (.i .i64 1))) fun v6 => escheatref20_Numbers_l0 n m x0 p5.1 v6 p5.2) (some (x3, h)) := by kernel_rfl
theorem K_escheatref20_Numbers : FnK Try.prog 99 A_escheatref20_Numbers E_escheatref20_Numbers R_escheatref20_Numbers := .mk' (sound1 S_escheatref01_At_ok sound0) Try.func99 (by kernel_rfl) (by intro n args h; kernel_rfl)
noncomputable def S_escheatref20_Numbers : Fun := tidy (Lim A_escheatref20_Numbers E_escheatref20_Numbers)
theorem S_escheatref20_Numbers_ok : SOk Try.prog 99 S_escheatref20_Numbers := K_escheatref20_Numbers.sok
theorem S_escheatref20_Numbers_low {n : Nat} {args : List Val} {h h2 : Heap} {v : Val} (he : R_escheatref20_Numbers n args (ro h) = some (v, h2)) (hf : v.low h.length = true) : S_escheatref20_Numbers args h = some (v, h) := K_escheatref20_Numbers.low he hf
theorem S_escheatref20_Numbers_out {n : Nat} {args : List Val} {h h2 : Heap} {v : Val} {sz k : Nat} {cs : List Cell} (he : R_escheatref20_Numbers n args (ro h) = some (v, h2)) (ho : Out h.length h2 v sz k cs) (hf : flats cs = true) : S_escheatref20_Numbers args h = some (.c (.sl h.length 0 k sz), h ++ [some ⟨cs, true⟩]) := K_escheatref20_Numbers.out he ho hf
def escheatref20_Block_o0 : List AOper := [{ dst := some 2, op := .nilrow 1 }]
def escheatref20_Block_c0 : ACode := .ops escheatref20_Block_o0
def escheatref20_Block_o1 : List AOper := [{ dst := some 3, op := .nilrow 1 }]
def escheatref20_Block_c1 : ACode := .ops escheatref20_Block_o1
def escheatref20_Block_o2 : List AOper := [{ dst := some 4, op := .mv (.v (.c (.i .i64 0))) }]
def escheatref20_Block_c2 : ACode := .ops escheatref20_Block_o2
def escheatref20_Block_o3 : List AOper := [{ dst := some 5, op := .mv (.t 4) }, { dst := some 6, op := .mv (.t 0) }, { dst := some 7, op := .len (.t 6) }, { dst := some 8, op := .bin .lss (.t 5) (.t 7) }]
def escheatref20_Block_c3 : ACode := .ops escheatref20_Block_o3
def escheatref20_Block_c4 : ACode := .cond (.t 8) .skip (.exit 0)
def escheatref20_Block_c5 : ACode := .seq [0, 3, 4, 8] escheatref20_Block_c3 escheatref20_Block_c4
def escheatref20_Block_o4 : List AOper := [{ dst := some 11, op := .mv (.t 3) }, { dst := some 12, op := .mv (.t 0) }, { dst := some 13, op := .mv (.t 4) }, { dst := some 14, op := .iAddrL 1 (.t 12) (.t 13) }, { dst := some 15, op := .load1 (.t 14) }, { dst := some 16, op := .conv .u64 (.t 15) }, { dst := some 17, op := .call 106 [(.v (.c (.i .i64 2))), (.t 16)] }, { dst := some 18, op := .app 1 (.t 11) (.t 17) }, { dst := some 3, op := .mv (.t 18) }]
def escheatref20_Block_c6 : ACode := .ops escheatref20_Block_o4
def escheatref20_Block_c7 : ACode := .block 1 escheatref20_Block_c6
def escheatref20_Block_o5 : List AOper := [{ dst := some 9, op := .mv (.t 4) }, { dst := some 10, op := .bin .add (.t 9) (.v (.c (.i .i64 1))) }, { dst := some 4, op := .mv (.t 10) }]
def escheatref20_Block_c8 : ACode := .ops escheatref20_Block_o5
def escheatref20_Block_c9 : ACode := .seq [0, 3, 4] escheatref20_Block_c7 escheatref20_Block_c8
def escheatref20_Block_c10 : ACode := .seq [0, 3, 4] escheatref20_Block_c5 escheatref20_Block_c9
def escheatref20_Block_c11 : ACode := .loop [0, 3, 4] escheatref20_Block_c10
def escheatref20_Block_c12 : ACode := .block 0 escheatref20_Block_c11
def escheatref20_Block_c13 : ACode := .seq [0, 3, 4] escheatref20_Block_c2 escheatref20_Block_c12
def escheatref20_Block_o6 : List AOper := [{ dst := some 19, op := .mkSl 1 ([.i .u8 0]) (.v (.c (.i .i64 256))) (.v (.c (.i .i64 256))) }, { dst := some 20, op := .mv (.t 3) }, { dst := some 21, op := .call 86 [(.t 19), (.v (.c (.i .i64 0))), (.t 20)] }, { dst := some 2, op := .mv (.t 21) }]
def escheatref20_Block_c14 : ACode := .ops escheatref20_Block_o6
def escheatref20_Block_c15 : ACode := .seq [2] escheatref20_Block_c14 .ret
def escheatref20_Block_c16 : ACode := .seq [3] escheatref20_Block_c13 escheatref20_Block_c15
def escheatref20_Block_c17 : ACode := .seq [0, 3] escheatref20_Block_c1 escheatref20_Block_c16
def escheatref20_Block_c18 : ACode := .seq [0] escheatref20_Block_c0 escheatref20_Block_c17
def A_escheatref20_Block : AFn := ⟨escheatref20_Block_c18, [.tmp 2]⟩
noncomputable def E_escheatref20_Block : Sums := disp 106 S_escheatref01_Bytes (disp 86 S_escheatref01_Lay disp0)
noncomputable def escheatref20_Block_c0_d (n : Nat) : SmV := smOps E_escheatref20_Block escheatref20_Block_o0
noncomputable def escheatref20_Block_c1_d (n : Nat) : SmV := smOps E_escheatref20_Block escheatref20_Block_o1
noncomputable def escheatref20_Block_c2_d (n : Nat) : SmV := smOps E_escheatref20_Block escheatref20_Block_o2
noncomputable def escheatref20_Block_c3_d (n : Nat) : SmV := smOps E_escheatref20_Block escheatref20_Block_o3
noncomputable def escheatref20_Block_c4_d (n : Nat) : SmV := smCond (.t 8) smSkip (smExit 0)
noncomputable def escheatref20_Block_c5_d (n : Nat) : SmV := smSeq [0, 3, 4, 8] (escheatref20_Block_c3_d n) (escheatref20_Block_c4_d n)
noncomputable def escheatref20_Block_c6_d (n : Nat) : SmV := smOps E_escheatref20_Block escheatref20_Block_o4
noncomputable def escheatref20_Block_c7_d (n : Nat) : SmV := smBlock 1 (escheatref20_Block_c6_d n)
noncomputable def escheatref20_Block_c8_d (n : Nat) : SmV := smOps E_escheatref20_Block escheatref20_Block_o5
noncomputable def escheatref20_Block_c9_d (n : Nat) : SmV := smSeq [0, 3, 4] (escheatref20_Block_c7_d n) (escheatref20_Block_c8_d n)
noncomputable def escheatref20_Block_c10_d (n : Nat) : SmV := smSeq [0, 3, 4] (escheatref20_Block_c5_d n) (escheatref20_Block_c9_d n)
noncomputable def escheatref20_Block_c11_d (n : Nat) : SmV := smLoop n [0, 3, 4] (escheatref20_Block_c10_d n)
noncomputable def escheatref20_Block_c12_d (n : Nat) : SmV := smBlock 0 (escheatref20_Block_c11_d n)
noncomputable def escheatref20_Block_c13_d (n : Nat) : SmV := smSeq [0, 3, 4] (escheatref20_Block_c2_d n) (escheatref20_Block_c12_d n)
noncomputable def escheatref20_Block_c14_d (n : Nat) : SmV := smOps E_escheatref20_Block escheatref20_Block_o6
noncomputable def escheatref20_Block_c15_d (n : Nat) : SmV := smSeq [2] (escheatref20_Block_c14_d n) smRet
noncomputable def escheatref20_Block_c16_d (n : Nat) : SmV := smSeq [3] (escheatref20_Block_c13_d n) (escheatref20_Block_c15_d n)
noncomputable def escheatref20_Block_c17_d (n : Nat) : SmV := smSeq [0, 3] (escheatref20_Block_c1_d n) (escheatref20_Block_c16_d n)
noncomputable def escheatref20_Block_c18_d (n : Nat) : SmV := smSeq [0] (escheatref20_Block_c0_d n) (escheatref20_Block_c17_d n)
noncomputable def escheatref20_Block_k0 (n : Nat) : AExit → Env → Heap → OptV := fun x e h => match x with | .normal => hold ((escheatref20_Block_c15_d n) A_escheatref20_Block.fin (e.keep [3]) h) | .exit id => A_escheatref20_Block.fin (.exit id) e h | .ret => A_escheatref20_Block.fin .ret e h
noncomputable def escheatref20_Block_k1 (n : Nat) : AExit → Env → Heap → OptV := fun x e h => match x with | .exit i => bif Nat.beq i 0 then (escheatref20_Block_k0 n) .normal e h else (escheatref20_Block_k0 n) (.exit i) e h | .normal => (escheatref20_Block_k0 n) .normal e h | .ret => (escheatref20_Block_k0 n) .ret e h
noncomputable def escheatref20_Block_l0 (n m : Nat) (x0 x3 x4 : Val) (h : Heap) : OptV := around (escheatref20_Block_c10_d n) [0, 3, 4] (escheatref20_Block_k1 n) m [(0, x0), (3, x3), (4, x4)] h
noncomputable def R_escheatref20_Block (n : Nat) (args : List Val) (h : Heap) : OptV := (escheatref20_Block_c18_d n) A_escheatref20_Block.fin (params 0 args) h
theorem R_escheatref20_Block_eq (n : Nat) (a0 : Val) (h : Heap) : R_escheatref20_Block n [a0] h = escheatref20_Block_l0 n n a0 ((.c (.sl ((h ++ [some (Row.mk ([]) true)])).length 0 0 1))) (.c (.i .i64 0)) (((h ++ [some (Row.mk ([]) true)]) ++ [some (Row.mk ([]) true)])) := by kernel_rfl
theorem escheatref20_Block_l0_eq (n m : Nat) (x0 x3 x4 : Val) (h : Heap) : escheatref20_Block_l0 n (m + 1) x0 x3 x4 h = bnd (alen x0) fun v1 => bnd (abin .lss x4 v1) fun v2 => cnd v2 (bnd (aiAddrL 1 x0 x4) fun v3 => bnd (aload1 h v3) fun v4 => bnd (aconv .u64 v4) fun v5 => bnd (S_escheatref01_Bytes [.c (.i .i64 2), v5] h) fun p6 => bnd (aapp p6.2 1 x3 p6.1) fun p7 => bnd (abin .add x4 (.c (.i .i64 1))) fun v8 => escheatref20_Block_l0 n m x0 p7.1 v8 p7.2) (bnd (amkn (.c (.i .i64 256)) (.c (.i .i64 256))) fun n9 => bnd (S_escheatref01_Lay [(.c (.sl h.length 0 n9 1)), .c (.i .i64 0), x3] ((h ++ [some (Row.mk (rows ([.i .u8 0]) n9) true)]))) fun p10 => some (p10.1, p10.2)) := by kernel_rfl
theorem K_escheatref20_Block : FnK Try.prog 107 A_escheatref20_Block E_escheatref20_Block R_escheatref20_Block := .mk' (sound1 S_escheatref01_Bytes_ok (sound1 S_escheatref01_Lay_ok sound0)) Try.func107 (by kernel_rfl) (by intro n args h; kernel_rfl)
noncomputable def S_escheatref20_Block : Fun := tidy (Lim A_escheatref20_Block E_escheatref20_Block)
theorem S_escheatref20_Block_ok : SOk Try.prog 107 S_escheatref20_Block := K_escheatref20_Block.sok
theorem S_escheatref20_Block_low {n : Nat} {args : List Val} {h h2 : Heap} {v : Val} (he : R_escheatref20_Block n args (ro h) = some (v, h2)) (hf : v.low h.length = true) : S_escheatref20_Block args h = some (v, h) := K_escheatref20_Block.low he hf
theorem S_escheatref20_Block_out {n : Nat} {args : List Val} {h h2 : Heap} {v : Val} {sz k : Nat} {cs : List Cell} (he : R_escheatref20_Block n args (ro h) = some (v, h2)) (ho : Out h.length h2 v sz k cs) (hf : flats cs = true) : S_escheatref20_Block args h = some (.c (.sl h.length 0 k sz), h ++ [some ⟨cs, true⟩]) := K_escheatref20_Block.out he ho hf
def escheatref20_Below_o0 : List AOper := [{ dst := some 4, op := .nilrow 1 }]
def escheatref20_Below_c0 : ACode := .ops escheatref20_Below_o0
def escheatref20_Below_o1 : List AOper := [{ dst := some 7, op := .mv (.t 0) }, { dst := some 8, op := .call 99 [(.t 7)] }, { dst := some 5, op := .mv (.t 8) }]
def escheatref20_Below_c1 : ACode := .ops escheatref20_Below_o1
def escheatref20_Below_o2 : List AOper := [{ dst := some 6, op := .mv (.v (.c (.i .i64 0))) }]
def escheatref20_Below_c2 : ACode := .ops escheatref20_Below_o2
def escheatref20_Below_o3 : List AOper := [{ dst := some 9, op := .mv (.t 6) }, { dst := some 10, op := .bin .lss (.t 9) (.v (.c (.i .i64 128))) }]
def escheatref20_Below_c3 : ACode := .ops escheatref20_Below_o3
def escheatref20_Below_c4 : ACode := .cond (.t 10) .skip (.exit 0)
def escheatref20_Below_c5 : ACode := .seq [1, 5, 6, 10] escheatref20_Below_c3 escheatref20_Below_c4
def escheatref20_Below_o4 : List AOper := [{ dst := some 13, op := .mv (.t 5) }, { dst := some 14, op := .mv (.t 6) }, { dst := some 15, op := .iAddrL 1 (.t 13) (.t 14) }, { dst := some 16, op := .load1 (.t 15) }, { dst := some 17, op := .mv (.t 1) }, { dst := some 18, op := .bin .geq (.t 16) (.t 17) }, { dst := some 19, op := .mv (.t 18) }, { dst := some 20, op := .mv (.t 6), guard := some (19, false) }, { dst := some 21, op := .bin .rem (.t 20) (.v (.c (.i .i64 3))), guard := some (19, false) }, { dst := some 22, op := .bin .eql (.t 21) (.v (.c (.i .i64 2))), guard := some (19, false) }, { dst := some 23, op := .pick (.t 19) (.v (.c (.b true))) (.t 22) }]
def escheatref20_Below_c6 : ACode := .ops escheatref20_Below_o4
def escheatref20_Below_o5 : List AOper := [{ dst := some 24, op := .mv (.t 5) }, { dst := some 25, op := .mv (.t 6) }, { dst := some 26, op := .iAddrL 1 (.t 24) (.t 25) }, { dst := none, op := .store1 (.t 26) (.v (.c (.i .i64 0))) }]
def escheatref20_Below_c7 : ACode := .ops escheatref20_Below_o5
def escheatref20_Below_c8 : ACode := .cond (.t 23) escheatref20_Below_c7 .skip
def escheatref20_Below_c9 : ACode := .seq [1, 5, 6, 23] escheatref20_Below_c6 escheatref20_Below_c8
def escheatref20_Below_c10 : ACode := .block 1 escheatref20_Below_c9
def escheatref20_Below_o6 : List AOper := [{ dst := some 11, op := .mv (.t 6) }, { dst := some 12, op := .bin .add (.t 11) (.v (.c (.i .i64 1))) }, { dst := some 6, op := .mv (.t 12) }]
def escheatref20_Below_c11 : ACode := .ops escheatref20_Below_o6
def escheatref20_Below_c12 : ACode := .seq [1, 5, 6] escheatref20_Below_c10 escheatref20_Below_c11
def escheatref20_Below_c13 : ACode := .seq [1, 5, 6] escheatref20_Below_c5 escheatref20_Below_c12
def escheatref20_Below_c14 : ACode := .loop [1, 5, 6] escheatref20_Below_c13
def escheatref20_Below_c15 : ACode := .block 0 escheatref20_Below_c14
def escheatref20_Below_c16 : ACode := .seq [1, 5, 6] escheatref20_Below_c2 escheatref20_Below_c15
def escheatref20_Below_o7 : List AOper := [{ dst := some 27, op := .mv (.t 5) }, { dst := some 28, op := .call 107 [(.t 27)] }, { dst := some 4, op := .mv (.t 28) }]
def escheatref20_Below_c17 : ACode := .ops escheatref20_Below_o7
def escheatref20_Below_c18 : ACode := .seq [4] escheatref20_Below_c17 .ret
def escheatref20_Below_c19 : ACode := .seq [5] escheatref20_Below_c16 escheatref20_Below_c18
def escheatref20_Below_c20 : ACode := .seq [1, 5] escheatref20_Below_c1 escheatref20_Below_c19
def escheatref20_Below_c21 : ACode := .seq [0, 1] escheatref20_Below_c0 escheatref20_Below_c20
def A_escheatref20_Below : AFn := ⟨escheatref20_Below_c21, [.tmp 4]⟩
noncomputable def E_escheatref20_Below : Sums := disp 99 S_escheatref20_Numbers (disp 107 S_escheatref20_Block disp0)
noncomputable def escheatref20_Below_c0_d (n : Nat) : SmV := smOps E_escheatref20_Below escheatref20_Below_o0
noncomputable def escheatref20_Below_c1_d (n : Nat) : SmV := smOps E_escheatref20_Below escheatref20_Below_o1
noncomputable def escheatref20_Below_c2_d (n : Nat) : SmV := smOps E_escheatref20_Below escheatref20_Below_o2
noncomputable def escheatref20_Below_c3_d (n : Nat) : SmV := smOps E_escheatref20_Below escheatref20_Below_o3
noncomputable def escheatref20_Below_c4_d (n : Nat) : SmV := smCond (.t 10) smSkip (smExit 0)
noncomputable def escheatref20_Below_c5_d (n : Nat) : SmV := smSeq [1, 5, 6, 10] (escheatref20_Below_c3_d n) (escheatref20_Below_c4_d n)
noncomputable def escheatref20_Below_c6_d (n : Nat) : SmV := smOps E_escheatref20_Below escheatref20_Below_o4
noncomputable def escheatref20_Below_c7_d (n : Nat) : SmV := smOps E_escheatref20_Below escheatref20_Below_o5
noncomputable def escheatref20_Below_c8_d (n : Nat) : SmV := smCond (.t 23) (escheatref20_Below_c7_d n) smSkip
noncomputable def escheatref20_Below_c9_d (n : Nat) : SmV := smSeq [1, 5, 6, 23] (escheatref20_Below_c6_d n) (escheatref20_Below_c8_d n)
noncomputable def escheatref20_Below_c10_d (n : Nat) : SmV := smBlock 1 (escheatref20_Below_c9_d n)
noncomputable def escheatref20_Below_c11_d (n : Nat) : SmV := smOps E_escheatref20_Below escheatref20_Below_o6
noncomputable def escheatref20_Below_c12_d (n : Nat) : SmV := smSeq [1, 5, 6] (escheatref20_Below_c10_d n) (escheatref20_Below_c11_d n)
noncomputable def escheatref20_Below_c13_d (n : Nat) : SmV := smSeq [1, 5, 6] (escheatref20_Below_c5_d n) (escheatref20_Below_c12_d n)
noncomputable def escheatref20_Below_c14_d (n : Nat) : SmV := smLoop n [1, 5, 6] (escheatref20_Below_c13_d n)
noncomputable def escheatref20_Below_c15_d (n : Nat) : SmV := smBlock 0 (escheatref20_Below_c14_d n)
noncomputable def escheatref20_Below_c16_d (n : Nat) : SmV := smSeq [1, 5, 6] (escheatref20_Below_c2_d n) (escheatref20_Below_c15_d n)
noncomputable def escheatref20_Below_c17_d (n : Nat) : SmV := smOps E_escheatref20_Below escheatref20_Below_o7
noncomputable def escheatref20_Below_c18_d (n : Nat) : SmV := smSeq [4] (escheatref20_Below_c17_d n) smRet
noncomputable def escheatref20_Below_c19_d (n : Nat) : SmV := smSeq [5] (escheatref20_Below_c16_d n) (escheatref20_Below_c18_d n)
noncomputable def escheatref20_Below_c20_d (n : Nat) : SmV := smSeq [1, 5] (escheatref20_Below_c1_d n) (escheatref20_Below_c19_d n)
noncomputable def escheatref20_Below_c21_d (n : Nat) : SmV := smSeq [0, 1] (escheatref20_Below_c0_d n) (escheatref20_Below_c20_d n)
noncomputable def escheatref20_Below_k0 (n : Nat) : AExit → Env → Heap → OptV := fun x e h => match x with | .normal => hold ((escheatref20_Below_c18_d n) A_escheatref20_Below.fin (e.keep [5]) h) | .exit id => A_escheatref20_Below.fin (.exit id) e h | .ret => A_escheatref20_Below.fin .ret e h
noncomputable def escheatref20_Below_k1 (n : Nat) : AExit → Env → Heap → OptV := fun x e h => match x with | .exit i => bif Nat.beq i 0 then (escheatref20_Below_k0 n) .normal e h else (escheatref20_Below_k0 n) (.exit i) e h | .normal => (escheatref20_Below_k0 n) .normal e h | .ret => (escheatref20_Below_k0 n) .ret e h
noncomputable def escheatref20_Below_l0 (n m : Nat) (x1 x5 x6 : Val) (h : Heap) : OptV := around (escheatref20_Below_c13_d n) [1, 5, 6] (escheatref20_Below_k1 n) m [(1, x1), (5, x5), (6, x6)] h
noncomputable def R_escheatref20_Below (n : Nat) (args : List Val) (h : Heap) : OptV := (escheatref20_Below_c21_d n) A_escheatref20_Below.fin (params 0 args) h
noncomputable def escheatref20_Below_k2 (n m : Nat) : AExit → Env → Heap → OptV := fun x e h => match x with | .normal => around (escheatref20_Below_c13_d n) [1, 5, 6] (escheatref20_Below_k1 n) m (e.keep [1, 5, 6]) h | .exit id => (escheatref20_Below_k1 n) (.exit id) e h | .ret => (escheatref20_Below_k1 n) .ret e h
noncomputable def escheatref20_Below_j0 (n m : Nat) (x1 x5 x6 : Val) (h : Heap) : OptV := hold ((escheatref20_Below_c11_d n) (escheatref20_Below_k2 n m) [(1, x1), (5, x5), (6, x6)] h)
theorem R_escheatref20_Below_eq (n : Nat) (a0 a1 : Val) (h : Heap) : R_escheatref20_Below n [a0, a1] h = bnd (S_escheatref20_Numbers [a0] ((h ++ [some (Row.mk ([]) true)]))) fun p1 => escheatref20_Below_l0 n n a1 p1.1 (.c (.i .i64 0)) p1.2 := by kernel_rfl
theorem escheatref20_Below_l0_eq (n m : Nat) (x1 x5 x6 : Val) (h : Heap) : escheatref20_Below_l0 n (m + 1) x1 x5 x6 h = bnd (abin .lss x6 (.c (.i .i64 128))) fun v2 => cnd v2 (bnd (aiAddrL 1 x5 x6) fun v3 => bnd (aload1 h v3) fun v4 => bnd (abin .geq v4 x1) fun v5 => bnd (gd v5 false (some (x6, h)) (some (.no, h))) fun p6 => bnd (gd v5 false (bnd (abin .rem p6.1 (.c (.i .i64 3))) fun v7 => some (v7, p6.2)) (some (.no, p6.2))) fun p8 => bnd (gd v5 false (bnd (abin .eql p8.1 (.c (.i .i64 2))) fun v9 => some (v9, p8.2)) (some (.no, p8.2))) fun p10 => bnd (apick v5 (.c (.b true)) p10.1) fun v11 => cnd v11 (bnd (aiAddrL 1 x5 x6) fun v12 => bnd (astore1 p10.2 v12 (.c (.i .i64 0))) fun h13 => escheatref20_Below_j0 n m x1 x5 x6 h13) (escheatref20_Below_j0 n m x1 x5 x6 p10.2)) (bnd (S_escheatref20_Block [x5] h) fun p14 => some (p14.1, p14.2)) := by kernel_rfl
theorem escheatref20_Below_j0_eq (n m : Nat) (x1 x5 x6 : Val) (h : Heap) : escheatref20_Below_j0 n m x1 x5 x6 h = bnd (abin .add x6 (.c (.i .i64 1))) fun v15 => escheatref20_Below_l0 n m x1 x5 v15 h := by kernel_rfl
theorem K_escheatref20_Below : FnK Try.prog 103 A_escheatref20_Below E_escheatref20_Below R_escheatref20_Below := .mk' (sound1 S_escheatref20_Numbers_ok (sound1 S_escheatref20_Block_ok sound0)) Try.func103 (by kernel_rfl) (by intro n args h; kernel_rfl)
noncomputable def S_escheatref20_Below : Fun := tidy (Lim A_escheatref20_Below E_escheatref20_Below)
theorem S_escheatref20_Below_ok : SOk Try.prog 103 S_escheatref20_Below := K_escheatref20_Below.sok
theorem S_escheatref20_Below_low {n : Nat} {args : List Val} {h h2 : Heap} {v : Val} (he : R_escheatref20_Below n args (ro h) = some (v, h2)) (hf : v.low h.length = true) : S_escheatref20_Below args h = some (v, h) := K_escheatref20_Below.low he hf
theorem S_escheatref20_Below_out {n : Nat} {args : List Val} {h h2 : Heap} {v : Val} {sz k : Nat} {cs : List Cell} (he : R_escheatref20_Below n args (ro h) = some (v, h2)) (ho : Out h.length h2 v sz k cs) (hf : flats cs = true) : S_escheatref20_Below args h = some (.c (.sl h.length 0 k sz), h ++ [some ⟨cs, true⟩]) := K_escheatref20_Below.out he ho hf
def escheatref20_Fine_o0 : List AOper := [{ dst := some 2, op := .mv (.v (.c (.b false))) }]
def escheatref20_Fine_c0 : ACode := .ops escheatref20_Fine_o0
def escheatref20_Fine_o1 : List AOper := [{ dst := some 3, op := .mv (.t 0) }, { dst := some 4, op := .bin .geq (.t 3) (.v (.c (.i .i64 0))) }, { dst := some 5, op := .mv (.t 4) }, { dst := some 6, op := .mv (.t 0), guard := some (5, true) }, { dst := some 7, op := .bin .leq (.t 6) (.v (.c (.i .i64 65535))), guard := some (5, true) }, { dst := some 8, op := .pick (.t 5) (.t 7) (.v (.c (.b false))) }, { dst := some 2, op := .mv (.t 8) }]
def escheatref20_Fine_c1 : ACode := .ops escheatref20_Fine_o1
def escheatref20_Fine_c2 : ACode := .seq [2] escheatref20_Fine_c1 .ret
def escheatref20_Fine_c3 : ACode := .seq [0] escheatref20_Fine_c0 escheatref20_Fine_c2
def A_escheatref20_Fine : AFn := ⟨escheatref20_Fine_c3, [.tmp 2]⟩
noncomputable def E_escheatref20_Fine : Sums := disp0
noncomputable def escheatref20_Fine_c0_d (n : Nat) : SmV := smOps E_escheatref20_Fine escheatref20_Fine_o0
noncomputable def escheatref20_Fine_c1_d (n : Nat) : SmV := smOps E_escheatref20_Fine escheatref20_Fine_o1
noncomputable def escheatref20_Fine_c2_d (n : Nat) : SmV := smSeq [2] (escheatref20_Fine_c1_d n) smRet
noncomputable def escheatref20_Fine_c3_d (n : Nat) : SmV := smSeq [0] (escheatref20_Fine_c0_d n) (escheatref20_Fine_c2_d n)
noncomputable def R_escheatref20_Fine (n : Nat) (args : List Val) (h : Heap) : OptV := (escheatref20_Fine_c3_d n) A_escheatref20_Fine.fin (params 0 args) h
theorem R_escheatref20_Fine_eq (n : Nat) (a0 : Val) (h : Heap) : R_escheatref20_Fine n [a0] h = bnd (abin .geq a0 (.c (.i .i64 0))) fun v1 => bnd (gd v1 true (some (a0, h)) (some (.no, h))) fun p2 => bnd (gd v1 true (bnd (abin .leq p2.1 (.c (.i .i64 65535))) fun v3 => some (v3, p2.2)) (some (.no, p2.2))) fun p4 => bnd (apick v1 p4.1 (.c (.b false))) fun v5 => some (v5, p4.2) := by kernel_rfl
theorem K_escheatref20_Fine : FnK Try.prog 105 A_escheatref20_Fine E_escheatref20_Fine R_escheatref20_Fine := .mk' (sound0) Try.func105 (by kernel_rfl) (by intro n args h; kernel_rfl)
noncomputable def S_escheatref20_Fine : Fun := tidy (Lim A_escheatref20_Fine E_escheatref20_Fine)
theorem S_escheatref20_Fine_ok : SOk Try.prog 105 S_escheatref20_Fine := K_escheatref20_Fine.sok
theorem S_escheatref20_Fine_flat {n : Nat} {args : List Val} {h h2 : Heap} {v : Val} (he : R_escheatref20_Fine n args (ro h) = some (v, h2)) (hf : v.flat = true) : S_escheatref20_Fine args h = some (v, h) := K_escheatref20_Fine.flat he hf
end Go.Proofs.Ytbbkpmbepljhkaa
